/-
  The walks: each Go function returns what its model says. Written by a program (gen.py).
-/
import Derived.Test.YthfkdepcnhhepaaProg
import Derived.KernelRfl
import Derived.Test.YthfkdepcnhhepaaXM
namespace Go.Proofs.Ythfkdepcnhhepaa
open Go Go.Bk
set_option linter.unusedVariables false
set_option linter.unnecessarySimpa false
theorem kfollows_mixedOrders_true : Try.prog.follows .mixedOrders = true := by kernel_rfl
theorem kunderlying_9_some_string : Try.prog.underlying 9 = some .string := by kernel_rfl
theorem kintB_5_u8_true : intB Try.prog 5 .u8 = true := by kernel_rfl
theorem kintB_3_i64_true : intB Try.prog 3 .i64 = true := by kernel_rfl
theorem kcallB_129_true : callB Try.prog 129 = true := by kernel_rfl
theorem kfieldB_126_0_0_true : fieldB Try.prog 126 0 0 = true := by kernel_rfl
theorem kscalB_3_true : scalB Try.prog 3 = true := by kernel_rfl
theorem kfieldB_106_1_1_true : fieldB Try.prog 106 1 1 = true := by kernel_rfl
theorem kfieldB_106_0_0_true : fieldB Try.prog 106 0 0 = true := by kernel_rfl
theorem kfieldB_106_3_3_true : fieldB Try.prog 106 3 3 = true := by kernel_rfl
theorem kfieldB_126_1_1_true : fieldB Try.prog 126 1 1 = true := by kernel_rfl
theorem karrB_124_10_123_5_true : arrB Try.prog 124 10 123 5 = true := by kernel_rfl
theorem kfieldB_126_2_51_true : fieldB Try.prog 126 2 51 = true := by kernel_rfl
theorem kfieldB_45_2_2_true : fieldB Try.prog 45 2 2 = true := by kernel_rfl
theorem kscalB_22_true : scalB Try.prog 22 = true := by kernel_rfl
theorem ksliceB_22_3_1_true : sliceB Try.prog 22 3 1 = true := by kernel_rfl
theorem ksizeB_3_1_true : sizeB Try.prog 3 1 = true := by kernel_rfl
theorem kfieldB_123_0_0_true : fieldB Try.prog 123 0 0 = true := by kernel_rfl
theorem kscalB_36_true : scalB Try.prog 36 = true := by kernel_rfl
theorem ksizeB_36_1_true : sizeB Try.prog 36 1 = true := by kernel_rfl
theorem kfieldB_45_3_3_true : fieldB Try.prog 45 3 3 = true := by kernel_rfl
theorem kfieldB_123_2_2_true : fieldB Try.prog 123 2 2 = true := by kernel_rfl
theorem kfieldB_45_4_4_true : fieldB Try.prog 45 4 4 = true := by kernel_rfl
theorem kfieldB_123_3_3_true : fieldB Try.prog 123 3 3 = true := by kernel_rfl
theorem kfieldB_123_4_4_true : fieldB Try.prog 123 4 4 = true := by kernel_rfl
theorem kcallB_91_true : callB Try.prog 91 = true := by kernel_rfl
theorem kfieldB_123_1_1_true : fieldB Try.prog 123 1 1 = true := by kernel_rfl
theorem kfieldB_45_1_1_true : fieldB Try.prog 45 1 1 = true := by kernel_rfl
theorem kinfo_45_bind_zero_some_agg_slice_none_0_0_I_0_slice_none_0_0_slice_none_0_0_slice_none_0_0 : (Try.prog.info? 45).bind (·.zero) = some (.agg #[.slice none 0 0, I 0, .slice none 0 0, .slice none 0 0, .slice none 0 0]) := by kernel_rfl
theorem ksliceB_23_106_4_true : sliceB Try.prog 23 106 4 = true := by kernel_rfl
theorem ksizeB_45_5_true : sizeB Try.prog 45 5 = true := by kernel_rfl
theorem kaggB_45_5_true : aggB Try.prog 45 5 = true := by kernel_rfl
theorem kelemB_22_3_1_8_true : elemB Try.prog 22 3 1 8 = true := by kernel_rfl
theorem kinfo_3_bind_zero_some_I_0 : (Try.prog.info? 3).bind (·.zero) = some (I 0) := by kernel_rfl
theorem kaggB_106_4_true : aggB Try.prog 106 4 = true := by kernel_rfl
theorem kinfo_106_bind_zero_some_agg_I_0_I_0_I_0_I_0 : (Try.prog.info? 106).bind (·.zero) = some (.agg #[I 0, I 0, I 0, I 0]) := by kernel_rfl
theorem ksizeB_106_4_true : sizeB Try.prog 106 4 = true := by kernel_rfl
theorem kfieldB_45_0_0_true : fieldB Try.prog 45 0 0 = true := by kernel_rfl
theorem kscalB_24_true : scalB Try.prog 24 = true := by kernel_rfl
theorem kcallB_58_true : callB Try.prog 58 = true := by kernel_rfl
theorem kelemB_24_28_1_8_true : elemB Try.prog 24 28 1 8 = true := by kernel_rfl
theorem kinfo_28_bind_zero_some_I_0 : (Try.prog.info? 28).bind (·.zero) = some (I 0) := by kernel_rfl
theorem ksizeB_24_1_true : sizeB Try.prog 24 1 = true := by kernel_rfl

set_option maxRecDepth 100000 in
theorem C129 {B : World} {L : List HP} {a0 : BitVec 32} {r0 : Int} (hm : F129 a0 = some r0) {w : World} (st : St B L w) : Calls Try.prog 129 #[U a0] w (fun e w' => (e = .returned (I r0) ∧ St B (L) w')) := by
  refine calls_of (N := 21) (L := L) (args := [U a0]) Try.func129 rfl rfl rfl ?_ st
  dsimp only [F129] at hm
  refine TC.k ?_
  refine TC.region ?_
  refine TO.s rfl rfl rfl (StepS.assign rfl) ?_
  refine TO.code ?_
  refine TC.k ?_
  refine TC.region_still kfollows_mixedOrders_true (by kernel_rfl) ?_
  refine TS.s rfl rfl rfl (StepS.move rfl) ?_
  refine TS.s rfl rfl rfl (StepS.shr rfl rfl (by decide)) ?_
  obtain ⟨x1, hx2, hm⟩ := bind_some hm
  refine TS.s rfl rfl rfl (StepS.idxTab rfl kunderlying_9_some_string (by kernel_rfl) hx2) ?_
  refine TS.s rfl rfl rfl (StepS.move rfl) ?_
  refine TS.s rfl rfl rfl (StepS.shr rfl rfl (by decide)) ?_
  refine TS.s rfl rfl rfl (StepS.bitU (n := 255#32) rfl rfl rfl) ?_
  obtain ⟨x3, hx4, hm⟩ := bind_some hm
  refine TS.s rfl rfl rfl (StepS.idxTab rfl kunderlying_9_some_string (by kernel_rfl) hx4) ?_
  refine TS.s rfl rfl rfl (StepS.addB rfl rfl) ?_
  refine TS.s rfl rfl rfl (StepS.move rfl) ?_
  refine TS.s rfl rfl rfl (StepS.shr rfl rfl (by decide)) ?_
  refine TS.s rfl rfl rfl (StepS.bitU (n := 255#32) rfl rfl rfl) ?_
  obtain ⟨x5, hx6, hm⟩ := bind_some hm
  refine TS.s rfl rfl rfl (StepS.idxTab rfl kunderlying_9_some_string (by kernel_rfl) hx6) ?_
  refine TS.s rfl rfl rfl (StepS.addB rfl rfl) ?_
  refine TS.s rfl rfl rfl (StepS.move rfl) ?_
  refine TS.s rfl rfl rfl (StepS.bitU (n := 255#32) rfl rfl rfl) ?_
  obtain ⟨x7, hx8, hm⟩ := bind_some hm
  refine TS.s rfl rfl rfl (StepS.idxTab rfl kunderlying_9_some_string (by kernel_rfl) hx8) ?_
  refine TS.s rfl rfl rfl (StepS.addB rfl rfl) ?_
  refine TS.s rfl rfl rfl (StepS.cvB kintB_5_u8_true kintB_3_i64_true rfl) ?_
  refine TS.s rfl rfl rfl (StepS.assign rfl) ?_
  refine TS.code ?_
  cases hm
  refine TC.ret fun a w e s => ?_
  refine FRet.mk1 (P := Try.prog) (fn := Try.f129) (t := 2) e rfl rfl ?_
  exact ⟨rfl, s.mono fun _ => Sat.dropN 0⟩

set_option maxRecDepth 100000 in
theorem C91 {B : World} {L : List HP} {a0 : Int} {a1 : BitVec 32} {b0_ : Nat} {u0_1 : Value} {u0_2 : Value} {u0_3 : Value} {u0_4 : Value} {u0_5 : Value} {u0_6 : Value} {u0_7 : Value} {u0_8 : Value} {u0_9 : Value} {u0_10 : Value} {u0_11 : Value} {u0_12 : Value} {u0_13 : Value} {u0_14 : Value} {u0_15 : Value} {u0_16 : Value} {u0_17 : Value} {u0_18 : Value} {u0_19 : Value} {u0_20 : Value} {u0_21 : Value} {u0_22 : Value} {u0_23 : Value} {u0_24 : Value} {u0_25 : Value} {u0_26 : Value} {u0_27 : Value} {u0_28 : Value} {u0_29 : Value} {u0_30 : Value} {u0_31 : Value} {u0_32 : Value} {u0_33 : Value} {u0_34 : Value} {u0_35 : Value} {u0_36 : Value} {u0_37 : Value} {u0_38 : Value} {u0_39 : Value} {u0_40 : Value} {u0_41 : Value} {u0_42 : Value} {u0_43 : Value} {u0_44 : Value} {u0_45 : Value} {u0_46 : Value} {u0_47 : Value} {u0_48 : Value} {u0_49 : Value} {u0_50 : Value} {u0_51 : Value} {u0_52 : Value} {u0_53 : Value} {u0_54 : Value} {u0_55 : Value} {r0 : Bool} {s0 : Int} (hm : F91 a0 a1 = some (r0, s0)) {w : World} (st : St B (Bx b0_ 126 [I a0, u0_1, u0_2, u0_3, u0_4, u0_5, u0_6, u0_7, u0_8, u0_9, u0_10, u0_11, u0_12, u0_13, u0_14, u0_15, u0_16, u0_17, u0_18, u0_19, u0_20, u0_21, u0_22, u0_23, u0_24, u0_25, u0_26, u0_27, u0_28, u0_29, u0_30, u0_31, u0_32, u0_33, u0_34, u0_35, u0_36, u0_37, u0_38, u0_39, u0_40, u0_41, u0_42, u0_43, u0_44, u0_45, u0_46, u0_47, u0_48, u0_49, u0_50, u0_51, u0_52, u0_53, u0_54, u0_55] :: L) w) : Calls Try.prog 91 #[.pointer (some ⟨b0_, 0, none⟩), U a1] w (fun e w' => ∃ v M, e = .returned v ∧ (v = .bool r0 ∧ M = (Bx b0_ 126 [I s0, u0_1, u0_2, u0_3, u0_4, u0_5, u0_6, u0_7, u0_8, u0_9, u0_10, u0_11, u0_12, u0_13, u0_14, u0_15, u0_16, u0_17, u0_18, u0_19, u0_20, u0_21, u0_22, u0_23, u0_24, u0_25, u0_26, u0_27, u0_28, u0_29, u0_30, u0_31, u0_32, u0_33, u0_34, u0_35, u0_36, u0_37, u0_38, u0_39, u0_40, u0_41, u0_42, u0_43, u0_44, u0_45, u0_46, u0_47, u0_48, u0_49, u0_50, u0_51, u0_52, u0_53, u0_54, u0_55] :: L)) ∧ St B M w') := by
  refine calls_of (N := 13) (L := (Bx b0_ 126 [I a0, u0_1, u0_2, u0_3, u0_4, u0_5, u0_6, u0_7, u0_8, u0_9, u0_10, u0_11, u0_12, u0_13, u0_14, u0_15, u0_16, u0_17, u0_18, u0_19, u0_20, u0_21, u0_22, u0_23, u0_24, u0_25, u0_26, u0_27, u0_28, u0_29, u0_30, u0_31, u0_32, u0_33, u0_34, u0_35, u0_36, u0_37, u0_38, u0_39, u0_40, u0_41, u0_42, u0_43, u0_44, u0_45, u0_46, u0_47, u0_48, u0_49, u0_50, u0_51, u0_52, u0_53, u0_54, u0_55] :: L)) (args := [.pointer (some ⟨b0_, 0, none⟩), U a1]) Try.func91 rfl rfl rfl ?_ st
  dsimp only [F91] at hm
  refine TC.k ?_
  refine TC.region ?_
  refine TO.s rfl rfl rfl (StepS.assign rfl) ?_
  refine TO.code ?_
  refine TC.k ?_
  refine TC.region_quiet kfollows_mixedOrders_true (by kernel_rfl) ?_
  refine TQ.s rfl rfl rfl (StepS.move rfl).q ?_
  obtain ⟨r1, hc2, hm⟩ := bind_some hm
  refine TQ.s rfl rfl rfl (StepQ.call kcallB_129_true rfl rfl (fun _ st => C129  hc2 st)) ?_
  refine TQ.s rfl rfl rfl (StepS.ari rfl rfl rfl).q ?_
  refine TQ.s rfl rfl rfl (StepS.move rfl).q ?_
  refine TQ.s rfl rfl rfl (StepS.nilc rfl).q ?_
  refine TQ.s rfl rfl rfl (StepS.fld rfl kfieldB_126_0_0_true).q ?_
  refine TQ.s rfl rfl rfl (StepS.ldB rfl (Ent.at 0 rfl) kscalB_3_true rfl).q ?_
  refine TQ.s rfl rfl rfl (StepS.cmp rfl rfl rfl).q ?_
  refine TQ.s rfl rfl rfl (StepS.assign rfl).q ?_
  refine TQ.code ?_
  cases hm
  refine TC.ret fun a w e s => ?_
  refine FRet.mk1 (P := Try.prog) (fn := Try.f91) (t := 4) e rfl rfl ?_
  refine ⟨_, _, rfl, ⟨rfl, rfl⟩, ?_⟩
  refine s.mono fun _ s => ?_
  replace s := Sat.front 0 rfl s
  exact s

set_option maxHeartbeats 4000000 in
set_option maxRecDepth 100000 in
theorem C58 {B : World} {L : List HP} {a0 : Int × (T10 ((BitVec 32) × (BitVec 32) × Int × Int × Int)) × Int × (List Int) × (List Int) × List Int} {a1 : Int × Int × Int × Int} {b0_ : Nat} {u0_51 : Value} {h0_1 : Value} {h0_2 : Value} {h0_3 : Value} {r0 : Int} {s0 : Int × (T10 ((BitVec 32) × (BitVec 32) × Int × Int × Int)) × Int × (List Int) × (List Int) × List Int} (hm : F58 a0 a1 = some (r0, s0)) {w : World} (st : St B (Bx b0_ 126 [I a0.1, U a0.2.1.1.1, U a0.2.1.1.2.1, I a0.2.1.1.2.2.1, I a0.2.1.1.2.2.2.1, I a0.2.1.1.2.2.2.2, U a0.2.1.2.1.1, U a0.2.1.2.1.2.1, I a0.2.1.2.1.2.2.1, I a0.2.1.2.1.2.2.2.1, I a0.2.1.2.1.2.2.2.2, U a0.2.1.2.2.1.1, U a0.2.1.2.2.1.2.1, I a0.2.1.2.2.1.2.2.1, I a0.2.1.2.2.1.2.2.2.1, I a0.2.1.2.2.1.2.2.2.2, U a0.2.1.2.2.2.1.1, U a0.2.1.2.2.2.1.2.1, I a0.2.1.2.2.2.1.2.2.1, I a0.2.1.2.2.2.1.2.2.2.1, I a0.2.1.2.2.2.1.2.2.2.2, U a0.2.1.2.2.2.2.1.1, U a0.2.1.2.2.2.2.1.2.1, I a0.2.1.2.2.2.2.1.2.2.1, I a0.2.1.2.2.2.2.1.2.2.2.1, I a0.2.1.2.2.2.2.1.2.2.2.2, U a0.2.1.2.2.2.2.2.1.1, U a0.2.1.2.2.2.2.2.1.2.1, I a0.2.1.2.2.2.2.2.1.2.2.1, I a0.2.1.2.2.2.2.2.1.2.2.2.1, I a0.2.1.2.2.2.2.2.1.2.2.2.2, U a0.2.1.2.2.2.2.2.2.1.1, U a0.2.1.2.2.2.2.2.2.1.2.1, I a0.2.1.2.2.2.2.2.2.1.2.2.1, I a0.2.1.2.2.2.2.2.2.1.2.2.2.1, I a0.2.1.2.2.2.2.2.2.1.2.2.2.2, U a0.2.1.2.2.2.2.2.2.2.1.1, U a0.2.1.2.2.2.2.2.2.2.1.2.1, I a0.2.1.2.2.2.2.2.2.2.1.2.2.1, I a0.2.1.2.2.2.2.2.2.2.1.2.2.2.1, I a0.2.1.2.2.2.2.2.2.2.1.2.2.2.2, U a0.2.1.2.2.2.2.2.2.2.2.1.1, U a0.2.1.2.2.2.2.2.2.2.2.1.2.1, I a0.2.1.2.2.2.2.2.2.2.2.1.2.2.1, I a0.2.1.2.2.2.2.2.2.2.2.1.2.2.2.1, I a0.2.1.2.2.2.2.2.2.2.2.1.2.2.2.2, U a0.2.1.2.2.2.2.2.2.2.2.2.1, U a0.2.1.2.2.2.2.2.2.2.2.2.2.1, I a0.2.1.2.2.2.2.2.2.2.2.2.2.2.1, I a0.2.1.2.2.2.2.2.2.2.2.2.2.2.2.1, I a0.2.1.2.2.2.2.2.2.2.2.2.2.2.2.2, u0_51, I a0.2.2.1, h0_1, h0_2, h0_3] :: OwnS 3 1 h0_1 (a0.2.2.2.1.map cI) :: OwnS 3 1 h0_2 (a0.2.2.2.2.1.map cI) :: OwnS 3 1 h0_3 (a0.2.2.2.2.2.map cI) :: L) w) : Calls Try.prog 58 #[.pointer (some ⟨b0_, 0, none⟩), .agg (cTiiii a1).toArray] w (fun e w' => ∃ v M, e = .returned v ∧ (∃ (qv1 : Value) (qv2 : Value) (qv3 : Value), v = I r0 ∧ M = (Bx b0_ 126 [I s0.1, U s0.2.1.1.1, U s0.2.1.1.2.1, I s0.2.1.1.2.2.1, I s0.2.1.1.2.2.2.1, I s0.2.1.1.2.2.2.2, U s0.2.1.2.1.1, U s0.2.1.2.1.2.1, I s0.2.1.2.1.2.2.1, I s0.2.1.2.1.2.2.2.1, I s0.2.1.2.1.2.2.2.2, U s0.2.1.2.2.1.1, U s0.2.1.2.2.1.2.1, I s0.2.1.2.2.1.2.2.1, I s0.2.1.2.2.1.2.2.2.1, I s0.2.1.2.2.1.2.2.2.2, U s0.2.1.2.2.2.1.1, U s0.2.1.2.2.2.1.2.1, I s0.2.1.2.2.2.1.2.2.1, I s0.2.1.2.2.2.1.2.2.2.1, I s0.2.1.2.2.2.1.2.2.2.2, U s0.2.1.2.2.2.2.1.1, U s0.2.1.2.2.2.2.1.2.1, I s0.2.1.2.2.2.2.1.2.2.1, I s0.2.1.2.2.2.2.1.2.2.2.1, I s0.2.1.2.2.2.2.1.2.2.2.2, U s0.2.1.2.2.2.2.2.1.1, U s0.2.1.2.2.2.2.2.1.2.1, I s0.2.1.2.2.2.2.2.1.2.2.1, I s0.2.1.2.2.2.2.2.1.2.2.2.1, I s0.2.1.2.2.2.2.2.1.2.2.2.2, U s0.2.1.2.2.2.2.2.2.1.1, U s0.2.1.2.2.2.2.2.2.1.2.1, I s0.2.1.2.2.2.2.2.2.1.2.2.1, I s0.2.1.2.2.2.2.2.2.1.2.2.2.1, I s0.2.1.2.2.2.2.2.2.1.2.2.2.2, U s0.2.1.2.2.2.2.2.2.2.1.1, U s0.2.1.2.2.2.2.2.2.2.1.2.1, I s0.2.1.2.2.2.2.2.2.2.1.2.2.1, I s0.2.1.2.2.2.2.2.2.2.1.2.2.2.1, I s0.2.1.2.2.2.2.2.2.2.1.2.2.2.2, U s0.2.1.2.2.2.2.2.2.2.2.1.1, U s0.2.1.2.2.2.2.2.2.2.2.1.2.1, I s0.2.1.2.2.2.2.2.2.2.2.1.2.2.1, I s0.2.1.2.2.2.2.2.2.2.2.1.2.2.2.1, I s0.2.1.2.2.2.2.2.2.2.2.1.2.2.2.2, U s0.2.1.2.2.2.2.2.2.2.2.2.1, U s0.2.1.2.2.2.2.2.2.2.2.2.2.1, I s0.2.1.2.2.2.2.2.2.2.2.2.2.2.1, I s0.2.1.2.2.2.2.2.2.2.2.2.2.2.2.1, I s0.2.1.2.2.2.2.2.2.2.2.2.2.2.2.2, u0_51, I s0.2.2.1, qv1, qv2, qv3] :: OwnS 3 1 qv1 (s0.2.2.2.1.map cI) :: OwnS 3 1 qv2 (s0.2.2.2.2.1.map cI) :: OwnS 3 1 qv3 (s0.2.2.2.2.2.map cI) :: L)) ∧ St B M w') := by
  refine calls_of (N := 218) (L := (Bx b0_ 126 [I a0.1, U a0.2.1.1.1, U a0.2.1.1.2.1, I a0.2.1.1.2.2.1, I a0.2.1.1.2.2.2.1, I a0.2.1.1.2.2.2.2, U a0.2.1.2.1.1, U a0.2.1.2.1.2.1, I a0.2.1.2.1.2.2.1, I a0.2.1.2.1.2.2.2.1, I a0.2.1.2.1.2.2.2.2, U a0.2.1.2.2.1.1, U a0.2.1.2.2.1.2.1, I a0.2.1.2.2.1.2.2.1, I a0.2.1.2.2.1.2.2.2.1, I a0.2.1.2.2.1.2.2.2.2, U a0.2.1.2.2.2.1.1, U a0.2.1.2.2.2.1.2.1, I a0.2.1.2.2.2.1.2.2.1, I a0.2.1.2.2.2.1.2.2.2.1, I a0.2.1.2.2.2.1.2.2.2.2, U a0.2.1.2.2.2.2.1.1, U a0.2.1.2.2.2.2.1.2.1, I a0.2.1.2.2.2.2.1.2.2.1, I a0.2.1.2.2.2.2.1.2.2.2.1, I a0.2.1.2.2.2.2.1.2.2.2.2, U a0.2.1.2.2.2.2.2.1.1, U a0.2.1.2.2.2.2.2.1.2.1, I a0.2.1.2.2.2.2.2.1.2.2.1, I a0.2.1.2.2.2.2.2.1.2.2.2.1, I a0.2.1.2.2.2.2.2.1.2.2.2.2, U a0.2.1.2.2.2.2.2.2.1.1, U a0.2.1.2.2.2.2.2.2.1.2.1, I a0.2.1.2.2.2.2.2.2.1.2.2.1, I a0.2.1.2.2.2.2.2.2.1.2.2.2.1, I a0.2.1.2.2.2.2.2.2.1.2.2.2.2, U a0.2.1.2.2.2.2.2.2.2.1.1, U a0.2.1.2.2.2.2.2.2.2.1.2.1, I a0.2.1.2.2.2.2.2.2.2.1.2.2.1, I a0.2.1.2.2.2.2.2.2.2.1.2.2.2.1, I a0.2.1.2.2.2.2.2.2.2.1.2.2.2.2, U a0.2.1.2.2.2.2.2.2.2.2.1.1, U a0.2.1.2.2.2.2.2.2.2.2.1.2.1, I a0.2.1.2.2.2.2.2.2.2.2.1.2.2.1, I a0.2.1.2.2.2.2.2.2.2.2.1.2.2.2.1, I a0.2.1.2.2.2.2.2.2.2.2.1.2.2.2.2, U a0.2.1.2.2.2.2.2.2.2.2.2.1, U a0.2.1.2.2.2.2.2.2.2.2.2.2.1, I a0.2.1.2.2.2.2.2.2.2.2.2.2.2.1, I a0.2.1.2.2.2.2.2.2.2.2.2.2.2.2.1, I a0.2.1.2.2.2.2.2.2.2.2.2.2.2.2.2, u0_51, I a0.2.2.1, h0_1, h0_2, h0_3] :: OwnS 3 1 h0_1 (a0.2.2.2.1.map cI) :: OwnS 3 1 h0_2 (a0.2.2.2.2.1.map cI) :: OwnS 3 1 h0_3 (a0.2.2.2.2.2.map cI) :: L)) (args := [.pointer (some ⟨b0_, 0, none⟩), .agg (cTiiii a1).toArray]) Try.func58 rfl rfl rfl ?_ st
  dsimp only [F58] at hm
  refine TC.k ?_
  refine TC.region ?_
  refine TO.box (cs := [I a1.1, I a1.2.1, I a1.2.2.1, I a1.2.2.2]) rfl rfl rfl fun b7 => ?_
  refine TO.s rfl rfl rfl (StepS.assign rfl) ?_
  refine TO.code ?_
  refine TC.k ?_
  refine TC.region ?_
  refine TO.s rfl rfl rfl (StepS.fld rfl kfieldB_106_1_1_true) ?_
  refine TO.s rfl rfl rfl (StepS.ldB rfl (Ent.at 0 rfl) kscalB_3_true rfl) ?_
  refine TO.s rfl rfl rfl (StepS.assign rfl) ?_
  refine TO.code ?_
  refine TC.k ?_
  refine TC.block ?_
  refine TC.k ?_
  refine TC.region ?_
  refine TO.s rfl rfl rfl (StepS.fld rfl kfieldB_106_0_0_true) ?_
  refine TO.s rfl rfl rfl (StepS.ldB rfl (Ent.at 0 rfl) kscalB_3_true rfl) ?_
  refine TO.s rfl rfl rfl (StepS.cmp rfl rfl rfl) ?_
  refine TO.s rfl rfl rfl (StepS.move rfl) ?_
  refine TO.mid1 4 17 (.bool ((decide (a1.1 < 1)) || (decide (a1.1 > 3)))) ?_ ?_
  · refine bcase ((decide (a1.1 < 1))) (fun hb8 => ?_) (fun hb8 => ?_)
    · refine TO.skip rfl rfl rfl (skipT hb8) rfl rfl ?_
      refine TO.skip rfl rfl rfl (skipT hb8) rfl rfl ?_
      refine TO.skip rfl rfl rfl (skipT hb8) rfl rfl ?_
      refine TO.s rfl rfl rfl (StepS.pickT rfl hb8 rfl) ?_
      exact TO.up1 4 0 rfl rfl (by rw [hb8]; rfl) rfl
    · refine TO.sw rfl rfl rfl hb8 rfl rfl (StepS.fld rfl kfieldB_106_0_0_true) ?_
      refine TO.sw rfl rfl rfl hb8 rfl rfl (StepS.ldB rfl (Ent.at 0 rfl) kscalB_3_true rfl) ?_
      refine TO.sw rfl rfl rfl hb8 rfl rfl (StepS.cmp rfl rfl rfl) ?_
      refine TO.s rfl rfl rfl (StepS.pickF rfl hb8 rfl) ?_
      exact TO.up1 4 0 rfl rfl (by rw [hb8]; rfl) rfl
  refine TO.s rfl rfl rfl (StepS.assign rfl) ?_
  refine TO.code ?_
  refine TC.cond rfl (fun hc9 => ?_) (fun hc9 => ?_)
  · replace hm := cond_t hc9 hm
    refine TC.k ?_
    refine TC.region ?_
    refine TO.s rfl rfl rfl (StepS.assign rfl) ?_
    refine TO.code ?_
    cases hm
    refine TC.ret fun a w e s => ?_
    refine FRet.mk1 (P := Try.prog) (fn := Try.f58) (t := 4) e rfl rfl ?_
    refine ⟨_, _, rfl, ⟨(h0_1), (h0_2), (h0_3), rfl, rfl⟩, ?_⟩
    refine s.mono fun _ s => ?_
    replace s := Sat.front 4 rfl s
    replace s := Sat.front 4 rfl s
    replace s := Sat.front 4 rfl s
    replace s := Sat.front 4 rfl s
    replace s := Sat.erase 4 s
    exact s
  · replace hm := cond_f hc9 hm
    refine TC.k ?_
    refine TC.region ?_
    refine TO.s rfl rfl rfl (StepS.fld rfl kfieldB_106_0_0_true) ?_
    refine TO.s rfl rfl rfl (StepS.ldB rfl (Ent.at 0 rfl) kscalB_3_true rfl) ?_
    refine TO.s rfl rfl rfl (StepS.cmp rfl rfl rfl) ?_
    refine TO.s rfl rfl rfl (StepS.move rfl) ?_
    refine TO.mid1 11 33 (.bool ((a1.1 != 2) && ((decide (a1.2.1 < 0)) || (decide (a1.2.1 ≥ a0.1))))) ?_ ?_
    · refine bcase ((a1.1 != 2)) (fun hb10 => ?_) (fun hb10 => ?_)
      · refine TO.sw rfl rfl rfl hb10 rfl rfl (StepS.move rfl) ?_
        refine TO.sw rfl rfl rfl hb10 rfl rfl (StepS.cmp rfl rfl rfl) ?_
        refine TO.sw rfl rfl rfl hb10 rfl rfl (StepS.move rfl) ?_
        refine TO.mid1 7 32 (.bool ((decide (a1.2.1 < 0)) || (decide (a1.2.1 ≥ a0.1)))) ?_ ?_
        · refine bcase ((decide (a1.2.1 < 0))) (fun hb11 => ?_) (fun hb11 => ?_)
          · refine TO.skip rfl rfl rfl (skipT hb11) rfl rfl ?_
            refine TO.skip rfl rfl rfl (skipT hb11) rfl rfl ?_
            refine TO.skip rfl rfl rfl (skipT hb11) rfl rfl ?_
            refine TO.skip rfl rfl rfl (skipT hb11) rfl rfl ?_
            refine TO.skip rfl rfl rfl (skipT hb11) rfl rfl ?_
            refine TO.skip rfl rfl rfl (skipT hb11) rfl rfl ?_
            refine TO.sw rfl rfl rfl hb10 rfl rfl (StepS.pickT rfl hb11 rfl) ?_
            exact TO.up1 7 0 rfl rfl (by rw [hb11]; rfl) rfl
          · refine TO.sw rfl rfl rfl hb11 rfl rfl (StepS.move rfl) ?_
            refine TO.sw rfl rfl rfl hb11 rfl rfl (StepS.move rfl) ?_
            refine TO.sw rfl rfl rfl hb11 rfl rfl (StepS.nilc rfl) ?_
            refine TO.sw rfl rfl rfl hb11 rfl rfl (StepS.fld rfl kfieldB_126_0_0_true) ?_
            refine TO.sw rfl rfl rfl hb11 rfl rfl (StepS.ldB rfl (Ent.at 1 rfl) kscalB_3_true rfl) ?_
            refine TO.sw rfl rfl rfl hb11 rfl rfl (StepS.cmp rfl rfl rfl) ?_
            refine TO.sw rfl rfl rfl hb10 rfl rfl (StepS.pickF rfl hb11 rfl) ?_
            exact TO.up1 7 0 rfl rfl (by rw [hb11]; rfl) rfl
        refine TO.s rfl rfl rfl (StepS.pickT rfl hb10 rfl) ?_
        exact TO.up1 5 0 rfl rfl (by rw [hb10]; rfl) rfl
      · refine TO.skip rfl rfl rfl (skipF hb10) rfl rfl ?_
        refine TO.skip rfl rfl rfl (skipF hb10) rfl rfl ?_
        refine TO.skip rfl rfl rfl (skipF hb10) rfl rfl ?_
        refine TO.skip rfl rfl rfl skipU rfl rfl ?_
        refine TO.skip rfl rfl rfl skipU rfl rfl ?_
        refine TO.skip rfl rfl rfl skipU rfl rfl ?_
        refine TO.skip rfl rfl rfl skipU rfl rfl ?_
        refine TO.skip rfl rfl rfl skipU rfl rfl ?_
        refine TO.skip rfl rfl rfl skipU rfl rfl ?_
        refine TO.skip rfl rfl rfl (skipF hb10) rfl rfl ?_
        refine TO.s rfl rfl rfl (StepS.pickF rfl hb10 rfl) ?_
        exact TO.up1 11 0 rfl rfl (by rw [hb10]; rfl) rfl
    refine TO.s rfl rfl rfl (StepS.assign rfl) ?_
    refine TO.code ?_
    refine TC.cond rfl (fun hc12 => ?_) (fun hc12 => ?_)
    · replace hm := cond_t hc12 hm
      refine TC.k ?_
      refine TC.region ?_
      refine TO.s rfl rfl rfl (StepS.assign rfl) ?_
      refine TO.code ?_
      cases hm
      refine TC.ret fun a w e s => ?_
      refine FRet.mk1 (P := Try.prog) (fn := Try.f58) (t := 4) e rfl rfl ?_
      refine ⟨_, _, rfl, ⟨(h0_1), (h0_2), (h0_3), rfl, rfl⟩, ?_⟩
      refine s.mono fun _ s => ?_
      replace s := Sat.front 4 rfl s
      replace s := Sat.front 4 rfl s
      replace s := Sat.front 4 rfl s
      replace s := Sat.front 4 rfl s
      replace s := Sat.erase 4 s
      exact s
    · replace hm := cond_f hc12 hm
      refine TC.k ?_
      refine TC.region ?_
      refine TO.s rfl rfl rfl (StepS.fld rfl kfieldB_106_3_3_true) ?_
      refine TO.s rfl rfl rfl (StepS.ldB rfl (Ent.at 0 rfl) kscalB_3_true rfl) ?_
      refine TO.s rfl rfl rfl (StepS.cmp rfl rfl rfl) ?_
      refine TO.s rfl rfl rfl (StepS.move rfl) ?_
      refine TO.mid1 4 42 (.bool ((decide (a1.2.2.2 < 1)) || (decide (a1.2.2.2 > 9)))) ?_ ?_
      · refine bcase ((decide (a1.2.2.2 < 1))) (fun hb13 => ?_) (fun hb13 => ?_)
        · refine TO.skip rfl rfl rfl (skipT hb13) rfl rfl ?_
          refine TO.skip rfl rfl rfl (skipT hb13) rfl rfl ?_
          refine TO.skip rfl rfl rfl (skipT hb13) rfl rfl ?_
          refine TO.s rfl rfl rfl (StepS.pickT rfl hb13 rfl) ?_
          exact TO.up1 4 0 rfl rfl (by rw [hb13]; rfl) rfl
        · refine TO.sw rfl rfl rfl hb13 rfl rfl (StepS.fld rfl kfieldB_106_3_3_true) ?_
          refine TO.sw rfl rfl rfl hb13 rfl rfl (StepS.ldB rfl (Ent.at 0 rfl) kscalB_3_true rfl) ?_
          refine TO.sw rfl rfl rfl hb13 rfl rfl (StepS.cmp rfl rfl rfl) ?_
          refine TO.s rfl rfl rfl (StepS.pickF rfl hb13 rfl) ?_
          exact TO.up1 4 0 rfl rfl (by rw [hb13]; rfl) rfl
      refine TO.s rfl rfl rfl (StepS.assign rfl) ?_
      refine TO.code ?_
      refine TC.cond rfl (fun hc14 => ?_) (fun hc14 => ?_)
      · replace hm := cond_t hc14 hm
        refine TC.k ?_
        refine TC.region ?_
        refine TO.s rfl rfl rfl (StepS.assign rfl) ?_
        refine TO.code ?_
        cases hm
        refine TC.ret fun a w e s => ?_
        refine FRet.mk1 (P := Try.prog) (fn := Try.f58) (t := 4) e rfl rfl ?_
        refine ⟨_, _, rfl, ⟨(h0_1), (h0_2), (h0_3), rfl, rfl⟩, ?_⟩
        refine s.mono fun _ s => ?_
        replace s := Sat.front 4 rfl s
        replace s := Sat.front 4 rfl s
        replace s := Sat.front 4 rfl s
        replace s := Sat.front 4 rfl s
        replace s := Sat.erase 4 s
        exact s
      · replace hm := cond_f hc14 hm
        refine TC.skipk ?_
        refine TC.k ?_
        refine TC.region_still kfollows_mixedOrders_true (by kernel_rfl) ?_
        refine TS.s rfl rfl rfl (StepS.move rfl) ?_
        refine TS.s rfl rfl rfl (StepS.fld rfl kfieldB_106_3_3_true) ?_
        refine TS.s rfl rfl rfl (StepS.ldB rfl (Ent.at 0 rfl) kscalB_3_true rfl) ?_
        refine TS.s rfl rfl rfl (StepS.nilc rfl) ?_
        refine TS.s rfl rfl rfl (StepS.fld rfl kfieldB_126_1_1_true) ?_
        obtain ⟨x15, hx16, hm⟩ := bind_some hm
        refine TS.s rfl rfl rfl (StepS.aidx (j := a1.2.2.2.toNat * 5) rfl rfl karrB_124_10_123_5_true ⟨(idx_spec hx16).1, idx_lt hx16⟩ rfl) ?_
        refine TS.s rfl rfl rfl (StepS.assign rfl) ?_
        refine TS.code ?_
        refine TC.k ?_
        refine TC.k ?_
        refine TC.region ?_
        refine TO.s rfl rfl rfl (StepS.fld rfl kfieldB_106_0_0_true) ?_
        refine TO.s rfl rfl rfl (StepS.ldB rfl (Ent.at 0 rfl) kscalB_3_true rfl) ?_
        refine TO.code ?_
        refine TC.block ?_
        refine TC.k ?_
        refine TC.region ?_
        refine TO.s rfl rfl rfl (StepS.cmp rfl rfl rfl) ?_
        refine TO.s rfl rfl rfl (StepS.assign rfl) ?_
        refine TO.code ?_
        refine TC.cond rfl (fun hc17 => ?_) (fun hc17 => ?_)
        · replace hm := cond_t hc17 hm
          refine TC.k ?_
          refine TC.k ?_
          refine TC.region_still kfollows_mixedOrders_true (by kernel_rfl) ?_
          refine TS.s rfl rfl rfl (StepS.move rfl) ?_
          refine TS.s rfl rfl rfl (StepS.nilc rfl) ?_
          refine TS.s rfl rfl rfl (StepS.fld rfl kfieldB_126_2_51_true) ?_
          refine TS.s rfl rfl rfl (StepS.fld rfl kfieldB_45_2_2_true) ?_
          refine TS.s rfl rfl rfl (StepS.ldB rfl (Ent.at 1 rfl) kscalB_22_true rfl) ?_
          refine TS.s rfl rfl rfl (StepS.move rfl) ?_
          obtain ⟨x18, hx19, hm⟩ := bind_some hm
          refine TS.s rfl rfl rfl (StepS.idx rfl rfl (OwnS.rd (Ent.at 2 rfl)) ksliceB_22_3_1_true (idx_spec hx19).1 (idxm_lt hx19)) ?_
          refine TS.s rfl rfl rfl (StepS.ld0 rfl (OwnS.rd (Ent.at 2 rfl)) kscalB_3_true rfl (idxm hx19) rfl) ?_
          refine TS.s rfl rfl rfl (StepS.fld rfl kfieldB_106_3_3_true) ?_
          refine TS.s rfl rfl rfl (StepS.ldB rfl (Ent.at 0 rfl) kscalB_3_true rfl) ?_
          refine TS.s rfl rfl rfl (StepS.cmp rfl rfl rfl) ?_
          refine TS.code ?_
          refine TC.cond rfl (fun hc20 => ?_) (fun hc20 => ?_)
          · replace hm := cond_t hc20 hm
            refine TC.k ?_
            refine TC.region ?_
            refine TO.s rfl rfl rfl (StepS.assign rfl) ?_
            refine TO.code ?_
            cases hm
            refine TC.ret fun a w e s => ?_
            refine FRet.mk1 (P := Try.prog) (fn := Try.f58) (t := 4) e rfl rfl ?_
            refine ⟨_, _, rfl, ⟨(h0_1), (h0_2), (h0_3), rfl, rfl⟩, ?_⟩
            refine s.mono fun _ s => ?_
            replace s := Sat.front 4 rfl s
            replace s := Sat.front 4 rfl s
            replace s := Sat.front 4 rfl s
            replace s := Sat.front 4 rfl s
            replace s := Sat.erase 4 s
            exact s
          · replace hm := cond_f hc20 hm
            refine TC.skipk ?_
            refine TC.k ?_
            refine TC.region_tail 9 kfollows_mixedOrders_true (by kernel_rfl) ?_
            refine TS.s rfl rfl rfl (StepS.move rfl) ?_
            refine TS.s rfl rfl rfl (StepS.nilc rfl) ?_
            refine TS.s rfl rfl rfl (StepS.fld rfl kfieldB_126_2_51_true) ?_
            refine TS.s rfl rfl rfl (StepS.fld rfl kfieldB_45_2_2_true) ?_
            refine TS.s rfl rfl rfl (StepS.ldB rfl (Ent.at 1 rfl) kscalB_22_true rfl) ?_
            refine TS.s rfl rfl rfl (StepS.move rfl) ?_
            refine TS.s rfl rfl rfl (StepS.fld rfl kfieldB_106_3_3_true) ?_
            refine TS.s rfl rfl rfl (StepS.ldB rfl (Ent.at 0 rfl) kscalB_3_true rfl) ?_
            obtain ⟨x21, hx22, hm⟩ := bind_some hm
            refine TS.s rfl rfl rfl (StepS.idx rfl rfl (OwnS.rd (Ent.at 2 rfl)) ksliceB_22_3_1_true (idx_spec hx22).1 (idxm_lt hx22)) ?_
            refine TS.nil ?_
            refine TO.at ?_
            refine TO.stO (i := a1.2.1.toNat) (off := 0) (us := [I a1.2.2.2]) 2 a1.2.2.2 rfl rfl rfl ksizeB_3_1_true rfl rfl rfl (idx_spec hx22).2 rfl (by simp [Value.oneCell']) rfl ?_
            refine TO.code ?_
            refine TC.k ?_
            refine TC.region_tail 9 kfollows_mixedOrders_true (by kernel_rfl) ?_
            refine TS.s rfl rfl rfl (StepS.move rfl) ?_
            refine TS.s rfl rfl rfl (StepS.nilc rfl) ?_
            refine TS.s rfl rfl rfl (StepS.fld rfl kfieldB_123_0_0_true) ?_
            refine TS.s rfl rfl rfl (StepS.ldD (i := a1.2.2.2) (sz := 5) (k := 0) [I a0.1] [u0_51, I a0.2.2.1, h0_1, h0_2, h0_3] (f := cTiu32iu32iii) (xs := tl10 a0.2.1) (y := x15) rfl (Ent.at 1 rfl) kscalB_36_true rfl (by simp only [List.length_cons, List.length_nil] <;> omega) (fun _ => rfl) hx16 rfl) ?_
            refine TS.s rfl rfl rfl (StepS.move rfl) ?_
            obtain ⟨k23, hk24, hm⟩ := bind_some hm
            refine TS.s rfl rfl rfl (StepS.shlk (m := 1#32) rfl rfl hk24) ?_
            refine TS.s rfl rfl rfl (StepS.bitU rfl rfl rfl) ?_
            refine TS.s rfl rfl rfl (StepS.nilc rfl) ?_
            refine TS.s rfl rfl rfl (StepS.fld rfl kfieldB_123_0_0_true) ?_
            refine TS.nil ?_
            refine TO.at ?_
            obtain ⟨z25, hz26, hm⟩ := bind_some hm
            refine TO.stD (i := a1.2.2.2) (sz := 5) (j := 0) (us := [U (x15.1 ||| ((1#32) <<< k23))]) (cs' := [I a0.1, U z25.1.1, U z25.1.2.1, I z25.1.2.2.1, I z25.1.2.2.2.1, I z25.1.2.2.2.2, U z25.2.1.1, U z25.2.1.2.1, I z25.2.1.2.2.1, I z25.2.1.2.2.2.1, I z25.2.1.2.2.2.2, U z25.2.2.1.1, U z25.2.2.1.2.1, I z25.2.2.1.2.2.1, I z25.2.2.1.2.2.2.1, I z25.2.2.1.2.2.2.2, U z25.2.2.2.1.1, U z25.2.2.2.1.2.1, I z25.2.2.2.1.2.2.1, I z25.2.2.2.1.2.2.2.1, I z25.2.2.2.1.2.2.2.2, U z25.2.2.2.2.1.1, U z25.2.2.2.2.1.2.1, I z25.2.2.2.2.1.2.2.1, I z25.2.2.2.2.1.2.2.2.1, I z25.2.2.2.2.1.2.2.2.2, U z25.2.2.2.2.2.1.1, U z25.2.2.2.2.2.1.2.1, I z25.2.2.2.2.2.1.2.2.1, I z25.2.2.2.2.2.1.2.2.2.1, I z25.2.2.2.2.2.1.2.2.2.2, U z25.2.2.2.2.2.2.1.1, U z25.2.2.2.2.2.2.1.2.1, I z25.2.2.2.2.2.2.1.2.2.1, I z25.2.2.2.2.2.2.1.2.2.2.1, I z25.2.2.2.2.2.2.1.2.2.2.2, U z25.2.2.2.2.2.2.2.1.1, U z25.2.2.2.2.2.2.2.1.2.1, I z25.2.2.2.2.2.2.2.1.2.2.1, I z25.2.2.2.2.2.2.2.1.2.2.2.1, I z25.2.2.2.2.2.2.2.1.2.2.2.2, U z25.2.2.2.2.2.2.2.2.1.1, U z25.2.2.2.2.2.2.2.2.1.2.1, I z25.2.2.2.2.2.2.2.2.1.2.2.1, I z25.2.2.2.2.2.2.2.2.1.2.2.2.1, I z25.2.2.2.2.2.2.2.2.1.2.2.2.2, U z25.2.2.2.2.2.2.2.2.2.1, U z25.2.2.2.2.2.2.2.2.2.2.1, I z25.2.2.2.2.2.2.2.2.2.2.2.1, I z25.2.2.2.2.2.2.2.2.2.2.2.2.1, I z25.2.2.2.2.2.2.2.2.2.2.2.2.2, u0_51, I a0.2.2.1, h0_1, h0_2, h0_3]) 1 [I a0.1] [u0_51, I a0.2.2.1, h0_1, h0_2, h0_3] (f := cTiu32iu32iii) (xs := tl10 a0.2.1) (xs' := tl10 z25) (y0 := x15) (y1 := ((x15.1 ||| ((1#32) <<< k23)), x15.2.1, x15.2.2.1, x15.2.2.2.1, x15.2.2.2.2)) rfl rfl rfl ksizeB_36_1_true rfl rfl (by simp [Value.oneCell']) rfl (by simp only [List.length_cons, List.length_nil] <;> omega) (fun _ => rfl) hx16 rfl rfl (as10_spec hz26) rfl ?_
            refine TO.code ?_
            refine TC.k ?_
            refine TC.region_still kfollows_mixedOrders_true (by kernel_rfl) ?_
            refine TS.s rfl rfl rfl (StepS.move rfl) ?_
            refine TS.s rfl rfl rfl (StepS.nilc rfl) ?_
            refine TS.s rfl rfl rfl (StepS.fld rfl kfieldB_126_2_51_true) ?_
            refine TS.s rfl rfl rfl (StepS.fld rfl kfieldB_45_3_3_true) ?_
            refine TS.s rfl rfl rfl (StepS.ldB rfl (Ent.at 1 rfl) kscalB_22_true rfl) ?_
            refine TS.s rfl rfl rfl (StepS.move rfl) ?_
            obtain ⟨x27, hx28, hm⟩ := bind_some hm
            refine TS.s rfl rfl rfl (StepS.idx rfl rfl (OwnS.rd (Ent.at 3 rfl)) ksliceB_22_3_1_true (idx_spec hx28).1 (idxm_lt hx28)) ?_
            refine TS.s rfl rfl rfl (StepS.ld0 rfl (OwnS.rd (Ent.at 3 rfl)) kscalB_3_true rfl (idxm hx28) rfl) ?_
            refine TS.s rfl rfl rfl (StepS.move rfl) ?_
            refine TS.s rfl rfl rfl (StepS.nilc rfl) ?_
            refine TS.s rfl rfl rfl (StepS.fld rfl kfieldB_123_2_2_true) ?_
            obtain ⟨x29, hx30, hm⟩ := bind_some hm
            refine TS.s rfl rfl rfl (StepS.ldD (i := a1.2.2.2) (sz := 5) (k := 2) [I a0.1] [u0_51, I a0.2.2.1, h0_1, h0_2, h0_3] (f := cTiu32iu32iii) (xs := tl10 z25) (y := x29) rfl (Ent.at 1 rfl) kscalB_3_true rfl (by simp only [List.length_cons, List.length_nil] <;> omega) (fun _ => rfl) hx30 rfl) ?_
            refine TS.s rfl rfl rfl (StepS.cmp rfl rfl rfl) ?_
            refine TS.code ?_
            obtain ⟨z31, hj32, hm⟩ := bind_some hm
            first | refine TC.cutM (fun a w => Mid 218 B [] (Bx b7 106 [I a1.1, I a1.2.1, I a1.2.2.1, I a1.2.2.2] :: Bx b0_ 126 [I a0.1, U z31.1.1, U z31.1.2.1, I z31.1.2.2.1, I z31.1.2.2.2.1, I z31.1.2.2.2.2, U z31.2.1.1, U z31.2.1.2.1, I z31.2.1.2.2.1, I z31.2.1.2.2.2.1, I z31.2.1.2.2.2.2, U z31.2.2.1.1, U z31.2.2.1.2.1, I z31.2.2.1.2.2.1, I z31.2.2.1.2.2.2.1, I z31.2.2.1.2.2.2.2, U z31.2.2.2.1.1, U z31.2.2.2.1.2.1, I z31.2.2.2.1.2.2.1, I z31.2.2.2.1.2.2.2.1, I z31.2.2.2.1.2.2.2.2, U z31.2.2.2.2.1.1, U z31.2.2.2.2.1.2.1, I z31.2.2.2.2.1.2.2.1, I z31.2.2.2.2.1.2.2.2.1, I z31.2.2.2.2.1.2.2.2.2, U z31.2.2.2.2.2.1.1, U z31.2.2.2.2.2.1.2.1, I z31.2.2.2.2.2.1.2.2.1, I z31.2.2.2.2.2.1.2.2.2.1, I z31.2.2.2.2.2.1.2.2.2.2, U z31.2.2.2.2.2.2.1.1, U z31.2.2.2.2.2.2.1.2.1, I z31.2.2.2.2.2.2.1.2.2.1, I z31.2.2.2.2.2.2.1.2.2.2.1, I z31.2.2.2.2.2.2.1.2.2.2.2, U z31.2.2.2.2.2.2.2.1.1, U z31.2.2.2.2.2.2.2.1.2.1, I z31.2.2.2.2.2.2.2.1.2.2.1, I z31.2.2.2.2.2.2.2.1.2.2.2.1, I z31.2.2.2.2.2.2.2.1.2.2.2.2, U z31.2.2.2.2.2.2.2.2.1.1, U z31.2.2.2.2.2.2.2.2.1.2.1, I z31.2.2.2.2.2.2.2.2.1.2.2.1, I z31.2.2.2.2.2.2.2.2.1.2.2.2.1, I z31.2.2.2.2.2.2.2.2.1.2.2.2.2, U z31.2.2.2.2.2.2.2.2.2.1, U z31.2.2.2.2.2.2.2.2.2.2.1, I z31.2.2.2.2.2.2.2.2.2.2.2.1, I z31.2.2.2.2.2.2.2.2.2.2.2.2.1, I z31.2.2.2.2.2.2.2.2.2.2.2.2.2, u0_51, I a0.2.2.1, h0_1, h0_2, h0_3] :: OwnS 3 1 h0_1 ((a0.2.2.2.1.set a1.2.1.toNat a1.2.2.2).map cI) :: OwnS 3 1 h0_2 (a0.2.2.2.2.1.map cI) :: OwnS 3 1 h0_3 (a0.2.2.2.2.2.map cI) :: L) a w) ?_ ?_ | refine TC.cutX (fun a w => Mid 218 B [] (Bx b7 106 [I a1.1, I a1.2.1, I a1.2.2.1, I a1.2.2.2] :: Bx b0_ 126 [I a0.1, U z31.1.1, U z31.1.2.1, I z31.1.2.2.1, I z31.1.2.2.2.1, I z31.1.2.2.2.2, U z31.2.1.1, U z31.2.1.2.1, I z31.2.1.2.2.1, I z31.2.1.2.2.2.1, I z31.2.1.2.2.2.2, U z31.2.2.1.1, U z31.2.2.1.2.1, I z31.2.2.1.2.2.1, I z31.2.2.1.2.2.2.1, I z31.2.2.1.2.2.2.2, U z31.2.2.2.1.1, U z31.2.2.2.1.2.1, I z31.2.2.2.1.2.2.1, I z31.2.2.2.1.2.2.2.1, I z31.2.2.2.1.2.2.2.2, U z31.2.2.2.2.1.1, U z31.2.2.2.2.1.2.1, I z31.2.2.2.2.1.2.2.1, I z31.2.2.2.2.1.2.2.2.1, I z31.2.2.2.2.1.2.2.2.2, U z31.2.2.2.2.2.1.1, U z31.2.2.2.2.2.1.2.1, I z31.2.2.2.2.2.1.2.2.1, I z31.2.2.2.2.2.1.2.2.2.1, I z31.2.2.2.2.2.1.2.2.2.2, U z31.2.2.2.2.2.2.1.1, U z31.2.2.2.2.2.2.1.2.1, I z31.2.2.2.2.2.2.1.2.2.1, I z31.2.2.2.2.2.2.1.2.2.2.1, I z31.2.2.2.2.2.2.1.2.2.2.2, U z31.2.2.2.2.2.2.2.1.1, U z31.2.2.2.2.2.2.2.1.2.1, I z31.2.2.2.2.2.2.2.1.2.2.1, I z31.2.2.2.2.2.2.2.1.2.2.2.1, I z31.2.2.2.2.2.2.2.1.2.2.2.2, U z31.2.2.2.2.2.2.2.2.1.1, U z31.2.2.2.2.2.2.2.2.1.2.1, I z31.2.2.2.2.2.2.2.2.1.2.2.1, I z31.2.2.2.2.2.2.2.2.1.2.2.2.1, I z31.2.2.2.2.2.2.2.2.1.2.2.2.2, U z31.2.2.2.2.2.2.2.2.2.1, U z31.2.2.2.2.2.2.2.2.2.2.1, I z31.2.2.2.2.2.2.2.2.2.2.2.1, I z31.2.2.2.2.2.2.2.2.2.2.2.2.1, I z31.2.2.2.2.2.2.2.2.2.2.2.2.2, u0_51, I a0.2.2.1, h0_1, h0_2, h0_3] :: OwnS 3 1 h0_1 ((a0.2.2.2.1.set a1.2.1.toNat a1.2.2.2).map cI) :: OwnS 3 1 h0_2 (a0.2.2.2.2.1.map cI) :: OwnS 3 1 h0_3 (a0.2.2.2.2.2.map cI) :: L) a w) ?_ ?_
            · refine TC.cond rfl (fun hc33 => ?_) (fun hc33 => ?_)
              · replace hj32 := cond_t hc33 hj32
                refine TC.region_any (Bx b7 106 [I a1.1, I a1.2.1, I a1.2.2.1, I a1.2.2.2] :: Bx b0_ 126 [I a0.1, U z25.1.1, U z25.1.2.1, I z25.1.2.2.1, I z25.1.2.2.2.1, I z25.1.2.2.2.2, U z25.2.1.1, U z25.2.1.2.1, I z25.2.1.2.2.1, I z25.2.1.2.2.2.1, I z25.2.1.2.2.2.2, U z25.2.2.1.1, U z25.2.2.1.2.1, I z25.2.2.1.2.2.1, I z25.2.2.1.2.2.2.1, I z25.2.2.1.2.2.2.2, U z25.2.2.2.1.1, U z25.2.2.2.1.2.1, I z25.2.2.2.1.2.2.1, I z25.2.2.2.1.2.2.2.1, I z25.2.2.2.1.2.2.2.2, U z25.2.2.2.2.1.1, U z25.2.2.2.2.1.2.1, I z25.2.2.2.2.1.2.2.1, I z25.2.2.2.2.1.2.2.2.1, I z25.2.2.2.2.1.2.2.2.2, U z25.2.2.2.2.2.1.1, U z25.2.2.2.2.2.1.2.1, I z25.2.2.2.2.2.1.2.2.1, I z25.2.2.2.2.2.1.2.2.2.1, I z25.2.2.2.2.2.1.2.2.2.2, U z25.2.2.2.2.2.2.1.1, U z25.2.2.2.2.2.2.1.2.1, I z25.2.2.2.2.2.2.1.2.2.1, I z25.2.2.2.2.2.2.1.2.2.2.1, I z25.2.2.2.2.2.2.1.2.2.2.2, U z25.2.2.2.2.2.2.2.1.1, U z25.2.2.2.2.2.2.2.1.2.1, I z25.2.2.2.2.2.2.2.1.2.2.1, I z25.2.2.2.2.2.2.2.1.2.2.2.1, I z25.2.2.2.2.2.2.2.1.2.2.2.2, U z25.2.2.2.2.2.2.2.2.1.1, U z25.2.2.2.2.2.2.2.2.1.2.1, I z25.2.2.2.2.2.2.2.2.1.2.2.1, I z25.2.2.2.2.2.2.2.2.1.2.2.2.1, I z25.2.2.2.2.2.2.2.2.1.2.2.2.2, U z25.2.2.2.2.2.2.2.2.2.1, U z25.2.2.2.2.2.2.2.2.2.2.1, I z25.2.2.2.2.2.2.2.2.2.2.2.1, I z25.2.2.2.2.2.2.2.2.2.2.2.2.1, I z25.2.2.2.2.2.2.2.2.2.2.2.2.2, u0_51, I a0.2.2.1, h0_1, h0_2, h0_3] :: OwnS 3 1 h0_1 ((a0.2.2.2.1.set a1.2.1.toNat a1.2.2.2).map cI) :: OwnS 3 1 h0_2 (a0.2.2.2.2.1.map cI) :: OwnS 3 1 h0_3 (a0.2.2.2.2.2.map cI) :: L) 20 24 kfollows_mixedOrders_true rfl ?_
                refine TA.takeW 0 rfl rfl rfl rfl (StepS.move rfl) (by kernel_rfl) (by kernel_rfl) (by kernel_rfl) rfl (.inr (fun _ s => s)) ?_
                refine TA.takeW 1 rfl rfl rfl rfl (StepS.move rfl) (by kernel_rfl) (by kernel_rfl) (by kernel_rfl) rfl (.inr (fun _ s => s)) ?_
                refine TA.takeW 2 rfl rfl rfl rfl (StepS.move rfl) (by kernel_rfl) (by kernel_rfl) (by kernel_rfl) rfl (.inr (fun _ s => s)) ?_
                refine TA.takeW 3 rfl rfl rfl rfl (StepS.nilc rfl) (by kernel_rfl) (by kernel_rfl) (by kernel_rfl) rfl (.inr (fun _ s => s)) ?_
                refine TA.takeW 4 rfl rfl rfl rfl (StepS.fld rfl kfieldB_126_2_51_true) (by kernel_rfl) (by kernel_rfl) (by kernel_rfl) rfl (.inr (fun _ s => s)) ?_
                refine TA.takeW 5 rfl rfl rfl rfl (StepS.fld rfl kfieldB_45_3_3_true) (by kernel_rfl) (by kernel_rfl) (by kernel_rfl) rfl (.inr (fun _ s => s)) ?_
                refine TA.take 6 rfl rfl rfl rfl (StepS.ldB rfl (Ent.at 1 rfl) kscalB_22_true rfl) (by kernel_rfl) (by kernel_rfl) (by kernel_rfl) (by kernel_rfl) (by kernel_rfl) (fun _ s => s) ?_
                refine TA.takeW 7 rfl rfl rfl rfl (StepS.move rfl) (by kernel_rfl) (by kernel_rfl) (by kernel_rfl) rfl (.inr (fun _ s => s)) ?_
                obtain ⟨xq34_8_1, hxq34_8_2, hj32⟩ := bind_some hj32
                refine TA.take 8 rfl rfl rfl rfl (StepS.idx rfl rfl (OwnS.rd (Ent.at 3 rfl)) ksliceB_22_3_1_true (idx_spec hxq34_8_2).1 (idxm_lt hxq34_8_2)) (by kernel_rfl) (by kernel_rfl) (by kernel_rfl) (by kernel_rfl) (by kernel_rfl) (fun _ s => s) ?_
                refine TA.take 9 rfl rfl rfl rfl (StepS.ld0 rfl (OwnS.rd (Ent.at 3 rfl)) kscalB_3_true rfl (idxm hxq34_8_2) rfl) (by kernel_rfl) (by kernel_rfl) (by kernel_rfl) (by kernel_rfl) (by kernel_rfl) (fun _ s => s) ?_
                refine TA.takeW 10 rfl rfl rfl rfl (StepS.move rfl) (by kernel_rfl) (by kernel_rfl) (by kernel_rfl) rfl (.inr (fun _ s => s)) ?_
                refine TA.takeW 11 rfl rfl rfl rfl (StepS.nilc rfl) (by kernel_rfl) (by kernel_rfl) (by kernel_rfl) rfl (.inr (fun _ s => s)) ?_
                refine TA.takeW 12 rfl rfl rfl rfl (StepS.fld rfl kfieldB_126_2_51_true) (by kernel_rfl) (by kernel_rfl) (by kernel_rfl) rfl (.inr (fun _ s => s)) ?_
                refine TA.takeW 13 rfl rfl rfl rfl (StepS.fld rfl kfieldB_45_4_4_true) (by kernel_rfl) (by kernel_rfl) (by kernel_rfl) rfl (.inr (fun _ s => s)) ?_
                refine TA.take 14 rfl rfl rfl rfl (StepS.ldB rfl (Ent.at 1 rfl) kscalB_22_true rfl) (by kernel_rfl) (by kernel_rfl) (by kernel_rfl) (by kernel_rfl) (by kernel_rfl) (fun _ s => s) ?_
                refine TA.takeW 15 rfl rfl rfl rfl (StepS.move rfl) (by kernel_rfl) (by kernel_rfl) (by kernel_rfl) rfl (.inr (fun _ s => s)) ?_
                refine TA.all1 (i := 16) (by kernel_rfl) ?_
                refine TB.of rfl ?_
                obtain ⟨xq34_16_1, hxq34_16_2, hj32⟩ := bind_some hj32
                refine TO.s rfl rfl rfl (StepS.idx rfl rfl (OwnS.rd (Ent.at 4 rfl)) ksliceB_22_3_1_true (idx_spec hxq34_16_2).1 (idxm_lt hxq34_16_2)) ?_
                refine TA.back (.inr (fun _ s => s)) ?_
                refine TA.take 17 rfl rfl rfl rfl (StepS.ld0 rfl (OwnS.rd (Ent.at 4 rfl)) kscalB_3_true rfl (idxm hxq34_16_2) rfl) (by kernel_rfl) (by kernel_rfl) (by kernel_rfl) (by kernel_rfl) (by kernel_rfl) (fun _ s => s) ?_
                refine TA.takeW 18 rfl rfl rfl rfl (StepS.nilc rfl) (by kernel_rfl) (by kernel_rfl) (by kernel_rfl) rfl (.inr (fun _ s => s)) ?_
                refine TA.takeW 19 rfl rfl rfl rfl (StepS.fld rfl kfieldB_123_2_2_true) (by kernel_rfl) (by kernel_rfl) (by kernel_rfl) rfl (.inr (fun _ s => s)) ?_
                refine TA.all1 (i := 20) (by kernel_rfl) ?_
                refine TB.of rfl ?_
                obtain ⟨xq34_20_1, hxq34_20_2, hj32⟩ := bind_some hj32
                obtain ⟨zq34_20_3, hzq34_20_4, hj32⟩ := bind_some hj32
                refine TO.stD (i := a1.2.2.2) (sz := 5) (j := 2) (us := [I xq34_8_1]) (cs' := [I a0.1, U zq34_20_3.1.1, U zq34_20_3.1.2.1, I zq34_20_3.1.2.2.1, I zq34_20_3.1.2.2.2.1, I zq34_20_3.1.2.2.2.2, U zq34_20_3.2.1.1, U zq34_20_3.2.1.2.1, I zq34_20_3.2.1.2.2.1, I zq34_20_3.2.1.2.2.2.1, I zq34_20_3.2.1.2.2.2.2, U zq34_20_3.2.2.1.1, U zq34_20_3.2.2.1.2.1, I zq34_20_3.2.2.1.2.2.1, I zq34_20_3.2.2.1.2.2.2.1, I zq34_20_3.2.2.1.2.2.2.2, U zq34_20_3.2.2.2.1.1, U zq34_20_3.2.2.2.1.2.1, I zq34_20_3.2.2.2.1.2.2.1, I zq34_20_3.2.2.2.1.2.2.2.1, I zq34_20_3.2.2.2.1.2.2.2.2, U zq34_20_3.2.2.2.2.1.1, U zq34_20_3.2.2.2.2.1.2.1, I zq34_20_3.2.2.2.2.1.2.2.1, I zq34_20_3.2.2.2.2.1.2.2.2.1, I zq34_20_3.2.2.2.2.1.2.2.2.2, U zq34_20_3.2.2.2.2.2.1.1, U zq34_20_3.2.2.2.2.2.1.2.1, I zq34_20_3.2.2.2.2.2.1.2.2.1, I zq34_20_3.2.2.2.2.2.1.2.2.2.1, I zq34_20_3.2.2.2.2.2.1.2.2.2.2, U zq34_20_3.2.2.2.2.2.2.1.1, U zq34_20_3.2.2.2.2.2.2.1.2.1, I zq34_20_3.2.2.2.2.2.2.1.2.2.1, I zq34_20_3.2.2.2.2.2.2.1.2.2.2.1, I zq34_20_3.2.2.2.2.2.2.1.2.2.2.2, U zq34_20_3.2.2.2.2.2.2.2.1.1, U zq34_20_3.2.2.2.2.2.2.2.1.2.1, I zq34_20_3.2.2.2.2.2.2.2.1.2.2.1, I zq34_20_3.2.2.2.2.2.2.2.1.2.2.2.1, I zq34_20_3.2.2.2.2.2.2.2.1.2.2.2.2, U zq34_20_3.2.2.2.2.2.2.2.2.1.1, U zq34_20_3.2.2.2.2.2.2.2.2.1.2.1, I zq34_20_3.2.2.2.2.2.2.2.2.1.2.2.1, I zq34_20_3.2.2.2.2.2.2.2.2.1.2.2.2.1, I zq34_20_3.2.2.2.2.2.2.2.2.1.2.2.2.2, U zq34_20_3.2.2.2.2.2.2.2.2.2.1, U zq34_20_3.2.2.2.2.2.2.2.2.2.2.1, I zq34_20_3.2.2.2.2.2.2.2.2.2.2.2.1, I zq34_20_3.2.2.2.2.2.2.2.2.2.2.2.2.1, I zq34_20_3.2.2.2.2.2.2.2.2.2.2.2.2.2, u0_51, I a0.2.2.1, h0_1, h0_2, h0_3]) 1 [I a0.1] [u0_51, I a0.2.2.1, h0_1, h0_2, h0_3] (f := cTiu32iu32iii) (xs := tl10 z25) (xs' := tl10 zq34_20_3) (y0 := xq34_20_1) (y1 := (xq34_20_1.1, xq34_20_1.2.1, xq34_8_1, xq34_20_1.2.2.2.1, xq34_20_1.2.2.2.2)) rfl rfl rfl ksizeB_3_1_true rfl rfl (by simp [Value.oneCell']) rfl (by simp only [List.length_cons, List.length_nil] <;> omega) (fun _ => rfl) hxq34_20_2 rfl rfl (as10_spec hzq34_20_4) rfl ?_
                refine TA.back (.inl (by kernel_rfl)) ?_
                refine TA.takeW 21 rfl rfl rfl rfl (StepS.nilc rfl) (by kernel_rfl) (by kernel_rfl) (by kernel_rfl) rfl (.inl (by kernel_rfl)) ?_
                refine TA.takeW 22 rfl rfl rfl rfl (StepS.fld rfl kfieldB_123_3_3_true) (by kernel_rfl) (by kernel_rfl) (by kernel_rfl) rfl (.inl (by kernel_rfl)) ?_
                refine TA.all1 (i := 23) (by kernel_rfl) ?_
                refine TB.of rfl ?_
                obtain ⟨xq34_23_1, hxq34_23_2, hj32⟩ := bind_some hj32
                obtain ⟨zq34_23_3, hzq34_23_4, hj32⟩ := bind_some hj32
                refine TO.stD (i := a1.2.2.2) (sz := 5) (j := 3) (us := [I xq34_16_1]) (cs' := [I a0.1, U zq34_23_3.1.1, U zq34_23_3.1.2.1, I zq34_23_3.1.2.2.1, I zq34_23_3.1.2.2.2.1, I zq34_23_3.1.2.2.2.2, U zq34_23_3.2.1.1, U zq34_23_3.2.1.2.1, I zq34_23_3.2.1.2.2.1, I zq34_23_3.2.1.2.2.2.1, I zq34_23_3.2.1.2.2.2.2, U zq34_23_3.2.2.1.1, U zq34_23_3.2.2.1.2.1, I zq34_23_3.2.2.1.2.2.1, I zq34_23_3.2.2.1.2.2.2.1, I zq34_23_3.2.2.1.2.2.2.2, U zq34_23_3.2.2.2.1.1, U zq34_23_3.2.2.2.1.2.1, I zq34_23_3.2.2.2.1.2.2.1, I zq34_23_3.2.2.2.1.2.2.2.1, I zq34_23_3.2.2.2.1.2.2.2.2, U zq34_23_3.2.2.2.2.1.1, U zq34_23_3.2.2.2.2.1.2.1, I zq34_23_3.2.2.2.2.1.2.2.1, I zq34_23_3.2.2.2.2.1.2.2.2.1, I zq34_23_3.2.2.2.2.1.2.2.2.2, U zq34_23_3.2.2.2.2.2.1.1, U zq34_23_3.2.2.2.2.2.1.2.1, I zq34_23_3.2.2.2.2.2.1.2.2.1, I zq34_23_3.2.2.2.2.2.1.2.2.2.1, I zq34_23_3.2.2.2.2.2.1.2.2.2.2, U zq34_23_3.2.2.2.2.2.2.1.1, U zq34_23_3.2.2.2.2.2.2.1.2.1, I zq34_23_3.2.2.2.2.2.2.1.2.2.1, I zq34_23_3.2.2.2.2.2.2.1.2.2.2.1, I zq34_23_3.2.2.2.2.2.2.1.2.2.2.2, U zq34_23_3.2.2.2.2.2.2.2.1.1, U zq34_23_3.2.2.2.2.2.2.2.1.2.1, I zq34_23_3.2.2.2.2.2.2.2.1.2.2.1, I zq34_23_3.2.2.2.2.2.2.2.1.2.2.2.1, I zq34_23_3.2.2.2.2.2.2.2.1.2.2.2.2, U zq34_23_3.2.2.2.2.2.2.2.2.1.1, U zq34_23_3.2.2.2.2.2.2.2.2.1.2.1, I zq34_23_3.2.2.2.2.2.2.2.2.1.2.2.1, I zq34_23_3.2.2.2.2.2.2.2.2.1.2.2.2.1, I zq34_23_3.2.2.2.2.2.2.2.2.1.2.2.2.2, U zq34_23_3.2.2.2.2.2.2.2.2.2.1, U zq34_23_3.2.2.2.2.2.2.2.2.2.2.1, I zq34_23_3.2.2.2.2.2.2.2.2.2.2.2.1, I zq34_23_3.2.2.2.2.2.2.2.2.2.2.2.2.1, I zq34_23_3.2.2.2.2.2.2.2.2.2.2.2.2.2, u0_51, I a0.2.2.1, h0_1, h0_2, h0_3]) 1 [I a0.1] [u0_51, I a0.2.2.1, h0_1, h0_2, h0_3] (f := cTiu32iu32iii) (xs := tl10 zq34_20_3) (xs' := tl10 zq34_23_3) (y0 := xq34_23_1) (y1 := (xq34_23_1.1, xq34_23_1.2.1, xq34_23_1.2.2.1, xq34_16_1, xq34_23_1.2.2.2.2)) rfl rfl rfl ksizeB_3_1_true rfl rfl (by simp [Value.oneCell']) rfl (by simp only [List.length_cons, List.length_nil] <;> omega) (fun _ => rfl) hxq34_23_2 rfl rfl (as10_spec hzq34_23_4) rfl ?_
                refine TA.back (.inl (by kernel_rfl)) ?_
                cases hj32
                refine TA.nil (by kernel_rfl) fun a w e s => ?_
                exact ⟨e.sub (lk_of_allIn trivial), s⟩
              · replace hj32 := cond_f hc33 hj32
                cases hj32
                refine TC.skip fun a w e s => ?_
                exact ⟨e.sub (lk_of_allIn trivial), s⟩
            · intro a w ⟨he, hs⟩
              refine TC.use ?_ he hs
              refine TC.k ?_
              refine TC.region ?_
              refine TO.s rfl rfl rfl (StepS.assign rfl) ?_
              refine TO.code ?_
              cases hm
              refine TC.ret fun a w e s => ?_
              refine FRet.mk1 (P := Try.prog) (fn := Try.f58) (t := 4) e rfl rfl ?_
              refine ⟨_, _, rfl, ⟨(h0_1), (h0_2), (h0_3), rfl, rfl⟩, ?_⟩
              refine s.mono fun _ s => ?_
              replace s := Sat.front 4 rfl s
              replace s := Sat.front 4 rfl s
              replace s := Sat.front 4 rfl s
              replace s := Sat.front 4 rfl s
              replace s := Sat.erase 4 s
              exact s
        · replace hm := cond_f hc17 hm
          refine TC.k ?_
          refine TC.region ?_
          refine TO.s rfl rfl rfl (StepS.cmp rfl rfl rfl) ?_
          refine TO.s rfl rfl rfl (StepS.assign rfl) ?_
          refine TO.code ?_
          refine TC.cond rfl (fun hc35 => ?_) (fun hc35 => ?_)
          · replace hm := cond_t hc35 hm
            refine TC.k ?_
            refine TC.k ?_
            refine TC.region ?_
            refine TO.s rfl rfl rfl (StepS.move rfl) ?_
            refine TO.s rfl rfl rfl (StepS.nilc rfl) ?_
            refine TO.s rfl rfl rfl (StepS.fld rfl kfieldB_123_4_4_true) ?_
            refine TO.s rfl rfl rfl (StepS.ldD (i := a1.2.2.2) (sz := 5) (k := 4) [I a0.1] [u0_51, I a0.2.2.1, h0_1, h0_2, h0_3] (f := cTiu32iu32iii) (xs := tl10 a0.2.1) (y := x15) rfl (Ent.at 1 rfl) kscalB_3_true rfl (by simp only [List.length_cons, List.length_nil] <;> omega) (fun _ => rfl) hx16 rfl) ?_
            refine TO.s rfl rfl rfl (StepS.cmp rfl rfl rfl) ?_
            refine TO.code ?_
            refine TC.cond rfl (fun hc36 => ?_) (fun hc36 => ?_)
            · replace hm := cond_t hc36 hm
              refine TC.k ?_
              refine TC.region ?_
              refine TO.s rfl rfl rfl (StepS.assign rfl) ?_
              refine TO.code ?_
              cases hm
              refine TC.ret fun a w e s => ?_
              refine FRet.mk1 (P := Try.prog) (fn := Try.f58) (t := 4) e rfl rfl ?_
              refine ⟨_, _, rfl, ⟨(h0_1), (h0_2), (h0_3), rfl, rfl⟩, ?_⟩
              refine s.mono fun _ s => ?_
              replace s := Sat.front 4 rfl s
              replace s := Sat.front 4 rfl s
              replace s := Sat.front 4 rfl s
              replace s := Sat.front 4 rfl s
              replace s := Sat.erase 4 s
              exact s
            · replace hm := cond_f hc36 hm
              refine TC.skipk ?_
              refine TC.k ?_
              refine TC.k ?_
              refine TC.region ?_
              refine TO.s rfl rfl rfl (StepS.move rfl) ?_
              refine TO.s rfl rfl rfl (StepS.move rfl) ?_
              refine TO.s rfl rfl rfl (StepS.nilc rfl) ?_
              refine TO.s rfl rfl rfl (StepS.fld rfl kfieldB_123_0_0_true) ?_
              refine TO.s rfl rfl rfl (StepS.ldD (i := a1.2.2.2) (sz := 5) (k := 0) [I a0.1] [u0_51, I a0.2.2.1, h0_1, h0_2, h0_3] (f := cTiu32iu32iii) (xs := tl10 a0.2.1) (y := x15) rfl (Ent.at 1 rfl) kscalB_36_true rfl (by simp only [List.length_cons, List.length_nil] <;> omega) (fun _ => rfl) hx16 rfl) ?_
              refine TO.ghost (fun _ s => Sat.front 1 rfl s) ?_
              obtain ⟨⟨r37, r38⟩, hc39, hm⟩ := bind_some hm
              refine TO.callO kcallB_91_true rfl rfl rfl (fun _ st => C91 (a0 := a0.1)  hc39 st) ?_
              rintro _ _ ⟨rfl, rfl⟩
              refine TO.s rfl rfl rfl (StepS.not rfl) ?_
              refine TO.code ?_
              refine TC.cond rfl (fun hc40 => ?_) (fun hc40 => ?_)
              · replace hm := cond_t hc40 hm
                refine TC.k ?_
                refine TC.region ?_
                refine TO.s rfl rfl rfl (StepS.assign rfl) ?_
                refine TO.code ?_
                cases hm
                refine TC.ret fun a w e s => ?_
                refine FRet.mk1 (P := Try.prog) (fn := Try.f58) (t := 4) e rfl rfl ?_
                refine ⟨_, _, rfl, ⟨(h0_1), (h0_2), (h0_3), rfl, rfl⟩, ?_⟩
                refine s.mono fun _ s => ?_
                replace s := Sat.front 4 rfl s
                replace s := Sat.front 4 rfl s
                replace s := Sat.front 4 rfl s
                replace s := Sat.front 3 rfl s
                replace s := Sat.erase 4 s
                exact s
              · replace hm := cond_f hc40 hm
                refine TC.skipk ?_
                refine TC.k ?_
                refine TC.region ?_
                refine TO.s rfl rfl rfl (StepS.move rfl) ?_
                refine TO.s rfl rfl rfl (StepS.fld rfl kfieldB_106_3_3_true) ?_
                refine TO.s rfl rfl rfl (StepS.ldB rfl (Ent.at 1 rfl) kscalB_3_true rfl) ?_
                refine TO.s rfl rfl rfl (StepS.nilc rfl) ?_
                refine TO.s rfl rfl rfl (StepS.fld rfl kfieldB_123_4_4_true) ?_
                obtain ⟨z41, hz42, hm⟩ := bind_some hm
                refine TO.stD (i := a1.2.2.2) (sz := 5) (j := 4) (us := [I a1.2.2.2]) (cs' := [I r38, U z41.1.1, U z41.1.2.1, I z41.1.2.2.1, I z41.1.2.2.2.1, I z41.1.2.2.2.2, U z41.2.1.1, U z41.2.1.2.1, I z41.2.1.2.2.1, I z41.2.1.2.2.2.1, I z41.2.1.2.2.2.2, U z41.2.2.1.1, U z41.2.2.1.2.1, I z41.2.2.1.2.2.1, I z41.2.2.1.2.2.2.1, I z41.2.2.1.2.2.2.2, U z41.2.2.2.1.1, U z41.2.2.2.1.2.1, I z41.2.2.2.1.2.2.1, I z41.2.2.2.1.2.2.2.1, I z41.2.2.2.1.2.2.2.2, U z41.2.2.2.2.1.1, U z41.2.2.2.2.1.2.1, I z41.2.2.2.2.1.2.2.1, I z41.2.2.2.2.1.2.2.2.1, I z41.2.2.2.2.1.2.2.2.2, U z41.2.2.2.2.2.1.1, U z41.2.2.2.2.2.1.2.1, I z41.2.2.2.2.2.1.2.2.1, I z41.2.2.2.2.2.1.2.2.2.1, I z41.2.2.2.2.2.1.2.2.2.2, U z41.2.2.2.2.2.2.1.1, U z41.2.2.2.2.2.2.1.2.1, I z41.2.2.2.2.2.2.1.2.2.1, I z41.2.2.2.2.2.2.1.2.2.2.1, I z41.2.2.2.2.2.2.1.2.2.2.2, U z41.2.2.2.2.2.2.2.1.1, U z41.2.2.2.2.2.2.2.1.2.1, I z41.2.2.2.2.2.2.2.1.2.2.1, I z41.2.2.2.2.2.2.2.1.2.2.2.1, I z41.2.2.2.2.2.2.2.1.2.2.2.2, U z41.2.2.2.2.2.2.2.2.1.1, U z41.2.2.2.2.2.2.2.2.1.2.1, I z41.2.2.2.2.2.2.2.2.1.2.2.1, I z41.2.2.2.2.2.2.2.2.1.2.2.2.1, I z41.2.2.2.2.2.2.2.2.1.2.2.2.2, U z41.2.2.2.2.2.2.2.2.2.1, U z41.2.2.2.2.2.2.2.2.2.2.1, I z41.2.2.2.2.2.2.2.2.2.2.2.1, I z41.2.2.2.2.2.2.2.2.2.2.2.2.1, I z41.2.2.2.2.2.2.2.2.2.2.2.2.2, u0_51, I a0.2.2.1, h0_1, h0_2, h0_3]) 0 [I r38] [u0_51, I a0.2.2.1, h0_1, h0_2, h0_3] (f := cTiu32iu32iii) (xs := tl10 a0.2.1) (xs' := tl10 z41) (y0 := x15) (y1 := (x15.1, x15.2.1, x15.2.2.1, x15.2.2.2.1, a1.2.2.2)) rfl rfl rfl ksizeB_3_1_true rfl rfl (by simp [Value.oneCell']) rfl (by simp only [List.length_cons, List.length_nil] <;> omega) (fun _ => rfl) hx16 rfl rfl (as10_spec hz42) rfl ?_
                refine TO.code ?_
                refine TC.k ?_
                refine TC.region ?_
                refine TO.s rfl rfl rfl (StepS.move rfl) ?_
                refine TO.s rfl rfl rfl (StepS.nilc rfl) ?_
                refine TO.s rfl rfl rfl (StepS.fld rfl kfieldB_123_2_2_true) ?_
                obtain ⟨x43, hx44, hm⟩ := bind_some hm
                refine TO.s rfl rfl rfl (StepS.ldD (i := a1.2.2.2) (sz := 5) (k := 2) [I r38] [u0_51, I a0.2.2.1, h0_1, h0_2, h0_3] (f := cTiu32iu32iii) (xs := tl10 z41) (y := x43) rfl (Ent.at 0 rfl) kscalB_3_true rfl (by simp only [List.length_cons, List.length_nil] <;> omega) (fun _ => rfl) hx44 rfl) ?_
                refine TO.s rfl rfl rfl (StepS.cmp rfl rfl rfl) ?_
                refine TO.code ?_
                obtain ⟨z45, hj46, hm⟩ := bind_some hm
                first | refine TC.cutM (fun a w => Mid 218 B [] (Bx b0_ 126 [I r38, U z45.1.1, U z45.1.2.1, I z45.1.2.2.1, I z45.1.2.2.2.1, I z45.1.2.2.2.2, U z45.2.1.1, U z45.2.1.2.1, I z45.2.1.2.2.1, I z45.2.1.2.2.2.1, I z45.2.1.2.2.2.2, U z45.2.2.1.1, U z45.2.2.1.2.1, I z45.2.2.1.2.2.1, I z45.2.2.1.2.2.2.1, I z45.2.2.1.2.2.2.2, U z45.2.2.2.1.1, U z45.2.2.2.1.2.1, I z45.2.2.2.1.2.2.1, I z45.2.2.2.1.2.2.2.1, I z45.2.2.2.1.2.2.2.2, U z45.2.2.2.2.1.1, U z45.2.2.2.2.1.2.1, I z45.2.2.2.2.1.2.2.1, I z45.2.2.2.2.1.2.2.2.1, I z45.2.2.2.2.1.2.2.2.2, U z45.2.2.2.2.2.1.1, U z45.2.2.2.2.2.1.2.1, I z45.2.2.2.2.2.1.2.2.1, I z45.2.2.2.2.2.1.2.2.2.1, I z45.2.2.2.2.2.1.2.2.2.2, U z45.2.2.2.2.2.2.1.1, U z45.2.2.2.2.2.2.1.2.1, I z45.2.2.2.2.2.2.1.2.2.1, I z45.2.2.2.2.2.2.1.2.2.2.1, I z45.2.2.2.2.2.2.1.2.2.2.2, U z45.2.2.2.2.2.2.2.1.1, U z45.2.2.2.2.2.2.2.1.2.1, I z45.2.2.2.2.2.2.2.1.2.2.1, I z45.2.2.2.2.2.2.2.1.2.2.2.1, I z45.2.2.2.2.2.2.2.1.2.2.2.2, U z45.2.2.2.2.2.2.2.2.1.1, U z45.2.2.2.2.2.2.2.2.1.2.1, I z45.2.2.2.2.2.2.2.2.1.2.2.1, I z45.2.2.2.2.2.2.2.2.1.2.2.2.1, I z45.2.2.2.2.2.2.2.2.1.2.2.2.2, U z45.2.2.2.2.2.2.2.2.2.1, U z45.2.2.2.2.2.2.2.2.2.2.1, I z45.2.2.2.2.2.2.2.2.2.2.2.1, I z45.2.2.2.2.2.2.2.2.2.2.2.2.1, I z45.2.2.2.2.2.2.2.2.2.2.2.2.2, u0_51, I a0.2.2.1, h0_1, h0_2, h0_3] :: Bx b7 106 [I a1.1, I a1.2.1, I a1.2.2.1, I a1.2.2.2] :: OwnS 3 1 h0_1 (a0.2.2.2.1.map cI) :: OwnS 3 1 h0_2 (a0.2.2.2.2.1.map cI) :: OwnS 3 1 h0_3 (a0.2.2.2.2.2.map cI) :: L) a w) ?_ ?_ | refine TC.cutX (fun a w => Mid 218 B [] (Bx b0_ 126 [I r38, U z45.1.1, U z45.1.2.1, I z45.1.2.2.1, I z45.1.2.2.2.1, I z45.1.2.2.2.2, U z45.2.1.1, U z45.2.1.2.1, I z45.2.1.2.2.1, I z45.2.1.2.2.2.1, I z45.2.1.2.2.2.2, U z45.2.2.1.1, U z45.2.2.1.2.1, I z45.2.2.1.2.2.1, I z45.2.2.1.2.2.2.1, I z45.2.2.1.2.2.2.2, U z45.2.2.2.1.1, U z45.2.2.2.1.2.1, I z45.2.2.2.1.2.2.1, I z45.2.2.2.1.2.2.2.1, I z45.2.2.2.1.2.2.2.2, U z45.2.2.2.2.1.1, U z45.2.2.2.2.1.2.1, I z45.2.2.2.2.1.2.2.1, I z45.2.2.2.2.1.2.2.2.1, I z45.2.2.2.2.1.2.2.2.2, U z45.2.2.2.2.2.1.1, U z45.2.2.2.2.2.1.2.1, I z45.2.2.2.2.2.1.2.2.1, I z45.2.2.2.2.2.1.2.2.2.1, I z45.2.2.2.2.2.1.2.2.2.2, U z45.2.2.2.2.2.2.1.1, U z45.2.2.2.2.2.2.1.2.1, I z45.2.2.2.2.2.2.1.2.2.1, I z45.2.2.2.2.2.2.1.2.2.2.1, I z45.2.2.2.2.2.2.1.2.2.2.2, U z45.2.2.2.2.2.2.2.1.1, U z45.2.2.2.2.2.2.2.1.2.1, I z45.2.2.2.2.2.2.2.1.2.2.1, I z45.2.2.2.2.2.2.2.1.2.2.2.1, I z45.2.2.2.2.2.2.2.1.2.2.2.2, U z45.2.2.2.2.2.2.2.2.1.1, U z45.2.2.2.2.2.2.2.2.1.2.1, I z45.2.2.2.2.2.2.2.2.1.2.2.1, I z45.2.2.2.2.2.2.2.2.1.2.2.2.1, I z45.2.2.2.2.2.2.2.2.1.2.2.2.2, U z45.2.2.2.2.2.2.2.2.2.1, U z45.2.2.2.2.2.2.2.2.2.2.1, I z45.2.2.2.2.2.2.2.2.2.2.2.1, I z45.2.2.2.2.2.2.2.2.2.2.2.2.1, I z45.2.2.2.2.2.2.2.2.2.2.2.2.2, u0_51, I a0.2.2.1, h0_1, h0_2, h0_3] :: Bx b7 106 [I a1.1, I a1.2.1, I a1.2.2.1, I a1.2.2.2] :: OwnS 3 1 h0_1 (a0.2.2.2.1.map cI) :: OwnS 3 1 h0_2 (a0.2.2.2.2.1.map cI) :: OwnS 3 1 h0_3 (a0.2.2.2.2.2.map cI) :: L) a w) ?_ ?_
                · refine TC.cond rfl (fun hc47 => ?_) (fun hc47 => ?_)
                  · replace hj46 := cond_t hc47 hj46
                    refine TC.region ?_
                    refine TO.s rfl rfl rfl (StepS.move rfl) ?_
                    refine TO.s rfl rfl rfl (StepS.move rfl) ?_
                    refine TO.s rfl rfl rfl (StepS.nilc rfl) ?_
                    refine TO.s rfl rfl rfl (StepS.fld rfl kfieldB_123_3_3_true) ?_
                    obtain ⟨x48, hx49, hj46⟩ := bind_some hj46
                    refine TO.s rfl rfl rfl (StepS.ldD (i := a1.2.2.2) (sz := 5) (k := 3) [I r38] [u0_51, I a0.2.2.1, h0_1, h0_2, h0_3] (f := cTiu32iu32iii) (xs := tl10 z41) (y := x48) rfl (Ent.at 0 rfl) kscalB_3_true rfl (by simp only [List.length_cons, List.length_nil] <;> omega) (fun _ => rfl) hx49 rfl) ?_
                    refine TO.s rfl rfl rfl (StepS.nilc rfl) ?_
                    refine TO.s rfl rfl rfl (StepS.fld rfl kfieldB_123_4_4_true) ?_
                    obtain ⟨x50, hx51, hj46⟩ := bind_some hj46
                    obtain ⟨z52, hz53, hj46⟩ := bind_some hj46
                    refine TO.stD (i := a1.2.2.2) (sz := 5) (j := 4) (us := [I x48.2.2.2.1]) (cs' := [I r38, U z52.1.1, U z52.1.2.1, I z52.1.2.2.1, I z52.1.2.2.2.1, I z52.1.2.2.2.2, U z52.2.1.1, U z52.2.1.2.1, I z52.2.1.2.2.1, I z52.2.1.2.2.2.1, I z52.2.1.2.2.2.2, U z52.2.2.1.1, U z52.2.2.1.2.1, I z52.2.2.1.2.2.1, I z52.2.2.1.2.2.2.1, I z52.2.2.1.2.2.2.2, U z52.2.2.2.1.1, U z52.2.2.2.1.2.1, I z52.2.2.2.1.2.2.1, I z52.2.2.2.1.2.2.2.1, I z52.2.2.2.1.2.2.2.2, U z52.2.2.2.2.1.1, U z52.2.2.2.2.1.2.1, I z52.2.2.2.2.1.2.2.1, I z52.2.2.2.2.1.2.2.2.1, I z52.2.2.2.2.1.2.2.2.2, U z52.2.2.2.2.2.1.1, U z52.2.2.2.2.2.1.2.1, I z52.2.2.2.2.2.1.2.2.1, I z52.2.2.2.2.2.1.2.2.2.1, I z52.2.2.2.2.2.1.2.2.2.2, U z52.2.2.2.2.2.2.1.1, U z52.2.2.2.2.2.2.1.2.1, I z52.2.2.2.2.2.2.1.2.2.1, I z52.2.2.2.2.2.2.1.2.2.2.1, I z52.2.2.2.2.2.2.1.2.2.2.2, U z52.2.2.2.2.2.2.2.1.1, U z52.2.2.2.2.2.2.2.1.2.1, I z52.2.2.2.2.2.2.2.1.2.2.1, I z52.2.2.2.2.2.2.2.1.2.2.2.1, I z52.2.2.2.2.2.2.2.1.2.2.2.2, U z52.2.2.2.2.2.2.2.2.1.1, U z52.2.2.2.2.2.2.2.2.1.2.1, I z52.2.2.2.2.2.2.2.2.1.2.2.1, I z52.2.2.2.2.2.2.2.2.1.2.2.2.1, I z52.2.2.2.2.2.2.2.2.1.2.2.2.2, U z52.2.2.2.2.2.2.2.2.2.1, U z52.2.2.2.2.2.2.2.2.2.2.1, I z52.2.2.2.2.2.2.2.2.2.2.2.1, I z52.2.2.2.2.2.2.2.2.2.2.2.2.1, I z52.2.2.2.2.2.2.2.2.2.2.2.2.2, u0_51, I a0.2.2.1, h0_1, h0_2, h0_3]) 0 [I r38] [u0_51, I a0.2.2.1, h0_1, h0_2, h0_3] (f := cTiu32iu32iii) (xs := tl10 z41) (xs' := tl10 z52) (y0 := x50) (y1 := (x50.1, x50.2.1, x50.2.2.1, x50.2.2.2.1, x48.2.2.2.1)) rfl rfl rfl ksizeB_3_1_true rfl rfl (by simp [Value.oneCell']) rfl (by simp only [List.length_cons, List.length_nil] <;> omega) (fun _ => rfl) hx51 rfl rfl (as10_spec hz53) rfl ?_
                    cases hj46
                    refine TO.nil fun a w e s => ?_
                    exact ⟨e.sub (lk_of_allIn trivial), s⟩
                  · replace hj46 := cond_f hc47 hj46
                    cases hj46
                    refine TC.skip fun a w e s => ?_
                    exact ⟨e.sub (lk_of_allIn trivial), s⟩
                · intro a w ⟨he, hs⟩
                  refine TC.use ?_ he hs
                  refine TC.k ?_
                  refine TC.region ?_
                  refine TO.s rfl rfl rfl (StepS.assign rfl) ?_
                  refine TO.code ?_
                  cases hm
                  refine TC.ret fun a w e s => ?_
                  refine FRet.mk1 (P := Try.prog) (fn := Try.f58) (t := 4) e rfl rfl ?_
                  refine ⟨_, _, rfl, ⟨(h0_1), (h0_2), (h0_3), rfl, rfl⟩, ?_⟩
                  refine s.mono fun _ s => ?_
                  replace s := Sat.front 4 rfl s
                  replace s := Sat.front 4 rfl s
                  replace s := Sat.front 4 rfl s
                  replace s := Sat.front 3 rfl s
                  replace s := Sat.erase 4 s
                  exact s
          · replace hm := cond_f hc35 hm
            refine TC.k ?_
            refine TC.region ?_
            refine TO.s rfl rfl rfl (StepS.cmp rfl rfl rfl) ?_
            refine TO.s rfl rfl rfl (StepS.assign rfl) ?_
            refine TO.code ?_
            refine TC.cond rfl (fun hc54 => ?_) (fun hc54 => ?_)
            · replace hm := cond_t hc54 hm
              refine TC.k ?_
              refine TC.k ?_
              refine TC.region ?_
              refine TO.s rfl rfl rfl (StepS.move rfl) ?_
              refine TO.s rfl rfl rfl (StepS.nilc rfl) ?_
              refine TO.s rfl rfl rfl (StepS.fld rfl kfieldB_123_4_4_true) ?_
              refine TO.s rfl rfl rfl (StepS.ldD (i := a1.2.2.2) (sz := 5) (k := 4) [I a0.1] [u0_51, I a0.2.2.1, h0_1, h0_2, h0_3] (f := cTiu32iu32iii) (xs := tl10 a0.2.1) (y := x15) rfl (Ent.at 1 rfl) kscalB_3_true rfl (by simp only [List.length_cons, List.length_nil] <;> omega) (fun _ => rfl) hx16 rfl) ?_
              refine TO.s rfl rfl rfl (StepS.cmp rfl rfl rfl) ?_
              refine TO.code ?_
              refine TC.cond rfl (fun hc55 => ?_) (fun hc55 => ?_)
              · replace hm := cond_t hc55 hm
                refine TC.k ?_
                refine TC.region ?_
                refine TO.s rfl rfl rfl (StepS.assign rfl) ?_
                refine TO.code ?_
                cases hm
                refine TC.ret fun a w e s => ?_
                refine FRet.mk1 (P := Try.prog) (fn := Try.f58) (t := 4) e rfl rfl ?_
                refine ⟨_, _, rfl, ⟨(h0_1), (h0_2), (h0_3), rfl, rfl⟩, ?_⟩
                refine s.mono fun _ s => ?_
                replace s := Sat.front 4 rfl s
                replace s := Sat.front 4 rfl s
                replace s := Sat.front 4 rfl s
                replace s := Sat.front 4 rfl s
                replace s := Sat.erase 4 s
                exact s
              · replace hm := cond_f hc55 hm
                refine TC.skipk ?_
                refine TC.k ?_
                refine TC.k ?_
                refine TC.region_still kfollows_mixedOrders_true (by kernel_rfl) ?_
                refine TS.s rfl rfl rfl (StepS.move rfl) ?_
                refine TS.s rfl rfl rfl (StepS.nilc rfl) ?_
                refine TS.s rfl rfl rfl (StepS.fld rfl kfieldB_126_2_51_true) ?_
                refine TS.s rfl rfl rfl (StepS.fld rfl kfieldB_45_2_2_true) ?_
                refine TS.s rfl rfl rfl (StepS.ldB rfl (Ent.at 1 rfl) kscalB_22_true rfl) ?_
                refine TS.s rfl rfl rfl (StepS.move rfl) ?_
                obtain ⟨x56, hx57, hm⟩ := bind_some hm
                refine TS.s rfl rfl rfl (StepS.idx rfl rfl (OwnS.rd (Ent.at 2 rfl)) ksliceB_22_3_1_true (idx_spec hx57).1 (idxm_lt hx57)) ?_
                refine TS.s rfl rfl rfl (StepS.ld0 rfl (OwnS.rd (Ent.at 2 rfl)) kscalB_3_true rfl (idxm hx57) rfl) ?_
                refine TS.s rfl rfl rfl (StepS.fld rfl kfieldB_106_3_3_true) ?_
                refine TS.s rfl rfl rfl (StepS.ldB rfl (Ent.at 0 rfl) kscalB_3_true rfl) ?_
                refine TS.s rfl rfl rfl (StepS.cmp rfl rfl rfl) ?_
                refine TS.code ?_
                refine TC.cond rfl (fun hc58 => ?_) (fun hc58 => ?_)
                · replace hm := cond_t hc58 hm
                  refine TC.k ?_
                  refine TC.region ?_
                  refine TO.s rfl rfl rfl (StepS.assign rfl) ?_
                  refine TO.code ?_
                  cases hm
                  refine TC.ret fun a w e s => ?_
                  refine FRet.mk1 (P := Try.prog) (fn := Try.f58) (t := 4) e rfl rfl ?_
                  refine ⟨_, _, rfl, ⟨(h0_1), (h0_2), (h0_3), rfl, rfl⟩, ?_⟩
                  refine s.mono fun _ s => ?_
                  replace s := Sat.front 4 rfl s
                  replace s := Sat.front 4 rfl s
                  replace s := Sat.front 4 rfl s
                  replace s := Sat.front 4 rfl s
                  replace s := Sat.erase 4 s
                  exact s
                · replace hm := cond_f hc58 hm
                  refine TC.skipk ?_
                  refine TC.k ?_
                  obtain ⟨⟨y60, y61, y62⟩, hj63, hm⟩ := bind_some hm
                  first | refine TC.cutM (fun a w => Mid 218 B [(0, .pointer (some ⟨b0_, 0, none⟩)), (5, I a1.2.1), (6, .pointer (some ⟨b0_, 0 + 1 + a1.2.2.2.toNat * 5, none⟩))] (Bx b7 106 [I a1.1, I a1.2.1, I a1.2.2.1, I a1.2.2.2] :: Bx b0_ 126 [I a0.1, U a0.2.1.1.1, U a0.2.1.1.2.1, I a0.2.1.1.2.2.1, I a0.2.1.1.2.2.2.1, I a0.2.1.1.2.2.2.2, U a0.2.1.2.1.1, U a0.2.1.2.1.2.1, I a0.2.1.2.1.2.2.1, I a0.2.1.2.1.2.2.2.1, I a0.2.1.2.1.2.2.2.2, U a0.2.1.2.2.1.1, U a0.2.1.2.2.1.2.1, I a0.2.1.2.2.1.2.2.1, I a0.2.1.2.2.1.2.2.2.1, I a0.2.1.2.2.1.2.2.2.2, U a0.2.1.2.2.2.1.1, U a0.2.1.2.2.2.1.2.1, I a0.2.1.2.2.2.1.2.2.1, I a0.2.1.2.2.2.1.2.2.2.1, I a0.2.1.2.2.2.1.2.2.2.2, U a0.2.1.2.2.2.2.1.1, U a0.2.1.2.2.2.2.1.2.1, I a0.2.1.2.2.2.2.1.2.2.1, I a0.2.1.2.2.2.2.1.2.2.2.1, I a0.2.1.2.2.2.2.1.2.2.2.2, U a0.2.1.2.2.2.2.2.1.1, U a0.2.1.2.2.2.2.2.1.2.1, I a0.2.1.2.2.2.2.2.1.2.2.1, I a0.2.1.2.2.2.2.2.1.2.2.2.1, I a0.2.1.2.2.2.2.2.1.2.2.2.2, U a0.2.1.2.2.2.2.2.2.1.1, U a0.2.1.2.2.2.2.2.2.1.2.1, I a0.2.1.2.2.2.2.2.2.1.2.2.1, I a0.2.1.2.2.2.2.2.2.1.2.2.2.1, I a0.2.1.2.2.2.2.2.2.1.2.2.2.2, U a0.2.1.2.2.2.2.2.2.2.1.1, U a0.2.1.2.2.2.2.2.2.2.1.2.1, I a0.2.1.2.2.2.2.2.2.2.1.2.2.1, I a0.2.1.2.2.2.2.2.2.2.1.2.2.2.1, I a0.2.1.2.2.2.2.2.2.2.1.2.2.2.2, U a0.2.1.2.2.2.2.2.2.2.2.1.1, U a0.2.1.2.2.2.2.2.2.2.2.1.2.1, I a0.2.1.2.2.2.2.2.2.2.2.1.2.2.1, I a0.2.1.2.2.2.2.2.2.2.2.1.2.2.2.1, I a0.2.1.2.2.2.2.2.2.2.2.1.2.2.2.2, U a0.2.1.2.2.2.2.2.2.2.2.2.1, U a0.2.1.2.2.2.2.2.2.2.2.2.2.1, I a0.2.1.2.2.2.2.2.2.2.2.2.2.2.1, I a0.2.1.2.2.2.2.2.2.2.2.2.2.2.2.1, I a0.2.1.2.2.2.2.2.2.2.2.2.2.2.2.2, u0_51, I a0.2.2.1, h0_1, h0_2, h0_3] :: OwnS 3 1 h0_1 (y60.map cI) :: OwnS 3 1 h0_2 (y61.map cI) :: OwnS 3 1 h0_3 (y62.map cI) :: L) a w) ?_ ?_ | refine TC.cutX (fun a w => Mid 218 B [(0, .pointer (some ⟨b0_, 0, none⟩)), (5, I a1.2.1), (6, .pointer (some ⟨b0_, 0 + 1 + a1.2.2.2.toNat * 5, none⟩))] (Bx b7 106 [I a1.1, I a1.2.1, I a1.2.2.1, I a1.2.2.2] :: Bx b0_ 126 [I a0.1, U a0.2.1.1.1, U a0.2.1.1.2.1, I a0.2.1.1.2.2.1, I a0.2.1.1.2.2.2.1, I a0.2.1.1.2.2.2.2, U a0.2.1.2.1.1, U a0.2.1.2.1.2.1, I a0.2.1.2.1.2.2.1, I a0.2.1.2.1.2.2.2.1, I a0.2.1.2.1.2.2.2.2, U a0.2.1.2.2.1.1, U a0.2.1.2.2.1.2.1, I a0.2.1.2.2.1.2.2.1, I a0.2.1.2.2.1.2.2.2.1, I a0.2.1.2.2.1.2.2.2.2, U a0.2.1.2.2.2.1.1, U a0.2.1.2.2.2.1.2.1, I a0.2.1.2.2.2.1.2.2.1, I a0.2.1.2.2.2.1.2.2.2.1, I a0.2.1.2.2.2.1.2.2.2.2, U a0.2.1.2.2.2.2.1.1, U a0.2.1.2.2.2.2.1.2.1, I a0.2.1.2.2.2.2.1.2.2.1, I a0.2.1.2.2.2.2.1.2.2.2.1, I a0.2.1.2.2.2.2.1.2.2.2.2, U a0.2.1.2.2.2.2.2.1.1, U a0.2.1.2.2.2.2.2.1.2.1, I a0.2.1.2.2.2.2.2.1.2.2.1, I a0.2.1.2.2.2.2.2.1.2.2.2.1, I a0.2.1.2.2.2.2.2.1.2.2.2.2, U a0.2.1.2.2.2.2.2.2.1.1, U a0.2.1.2.2.2.2.2.2.1.2.1, I a0.2.1.2.2.2.2.2.2.1.2.2.1, I a0.2.1.2.2.2.2.2.2.1.2.2.2.1, I a0.2.1.2.2.2.2.2.2.1.2.2.2.2, U a0.2.1.2.2.2.2.2.2.2.1.1, U a0.2.1.2.2.2.2.2.2.2.1.2.1, I a0.2.1.2.2.2.2.2.2.2.1.2.2.1, I a0.2.1.2.2.2.2.2.2.2.1.2.2.2.1, I a0.2.1.2.2.2.2.2.2.2.1.2.2.2.2, U a0.2.1.2.2.2.2.2.2.2.2.1.1, U a0.2.1.2.2.2.2.2.2.2.2.1.2.1, I a0.2.1.2.2.2.2.2.2.2.2.1.2.2.1, I a0.2.1.2.2.2.2.2.2.2.2.1.2.2.2.1, I a0.2.1.2.2.2.2.2.2.2.2.1.2.2.2.2, U a0.2.1.2.2.2.2.2.2.2.2.2.1, U a0.2.1.2.2.2.2.2.2.2.2.2.2.1, I a0.2.1.2.2.2.2.2.2.2.2.2.2.2.1, I a0.2.1.2.2.2.2.2.2.2.2.2.2.2.2.1, I a0.2.1.2.2.2.2.2.2.2.2.2.2.2.2.2, u0_51, I a0.2.2.1, h0_1, h0_2, h0_3] :: OwnS 3 1 h0_1 (y60.map cI) :: OwnS 3 1 h0_2 (y61.map cI) :: OwnS 3 1 h0_3 (y62.map cI) :: L) a w) ?_ ?_
                  · obtain ⟨xq59_26_1, hxq59_26_2, hj63⟩ := bind_some hj63
                    obtain ⟨xq59_28_1, hxq59_28_2, hj63⟩ := bind_some hj63
                    obtain ⟨xq59_30_1, hxq59_30_2, hj63⟩ := bind_some hj63
                    refine TC.region_any (Bx b7 106 [I a1.1, I a1.2.1, I a1.2.2.1, I a1.2.2.2] :: Bx b0_ 126 [I a0.1, U a0.2.1.1.1, U a0.2.1.1.2.1, I a0.2.1.1.2.2.1, I a0.2.1.1.2.2.2.1, I a0.2.1.1.2.2.2.2, U a0.2.1.2.1.1, U a0.2.1.2.1.2.1, I a0.2.1.2.1.2.2.1, I a0.2.1.2.1.2.2.2.1, I a0.2.1.2.1.2.2.2.2, U a0.2.1.2.2.1.1, U a0.2.1.2.2.1.2.1, I a0.2.1.2.2.1.2.2.1, I a0.2.1.2.2.1.2.2.2.1, I a0.2.1.2.2.1.2.2.2.2, U a0.2.1.2.2.2.1.1, U a0.2.1.2.2.2.1.2.1, I a0.2.1.2.2.2.1.2.2.1, I a0.2.1.2.2.2.1.2.2.2.1, I a0.2.1.2.2.2.1.2.2.2.2, U a0.2.1.2.2.2.2.1.1, U a0.2.1.2.2.2.2.1.2.1, I a0.2.1.2.2.2.2.1.2.2.1, I a0.2.1.2.2.2.2.1.2.2.2.1, I a0.2.1.2.2.2.2.1.2.2.2.2, U a0.2.1.2.2.2.2.2.1.1, U a0.2.1.2.2.2.2.2.1.2.1, I a0.2.1.2.2.2.2.2.1.2.2.1, I a0.2.1.2.2.2.2.2.1.2.2.2.1, I a0.2.1.2.2.2.2.2.1.2.2.2.2, U a0.2.1.2.2.2.2.2.2.1.1, U a0.2.1.2.2.2.2.2.2.1.2.1, I a0.2.1.2.2.2.2.2.2.1.2.2.1, I a0.2.1.2.2.2.2.2.2.1.2.2.2.1, I a0.2.1.2.2.2.2.2.2.1.2.2.2.2, U a0.2.1.2.2.2.2.2.2.2.1.1, U a0.2.1.2.2.2.2.2.2.2.1.2.1, I a0.2.1.2.2.2.2.2.2.2.1.2.2.1, I a0.2.1.2.2.2.2.2.2.2.1.2.2.2.1, I a0.2.1.2.2.2.2.2.2.2.1.2.2.2.2, U a0.2.1.2.2.2.2.2.2.2.2.1.1, U a0.2.1.2.2.2.2.2.2.2.2.1.2.1, I a0.2.1.2.2.2.2.2.2.2.2.1.2.2.1, I a0.2.1.2.2.2.2.2.2.2.2.1.2.2.2.1, I a0.2.1.2.2.2.2.2.2.2.2.1.2.2.2.2, U a0.2.1.2.2.2.2.2.2.2.2.2.1, U a0.2.1.2.2.2.2.2.2.2.2.2.2.1, I a0.2.1.2.2.2.2.2.2.2.2.2.2.2.1, I a0.2.1.2.2.2.2.2.2.2.2.2.2.2.2.1, I a0.2.1.2.2.2.2.2.2.2.2.2.2.2.2.2, u0_51, I a0.2.2.1, h0_1, h0_2, h0_3] :: OwnS 3 1 h0_1 (a0.2.2.2.1.map cI) :: OwnS 3 1 h0_2 (a0.2.2.2.2.1.map cI) :: OwnS 3 1 h0_3 (a0.2.2.2.2.2.map cI) :: L) 27 32 kfollows_mixedOrders_true rfl ?_
                    refine TA.takeW 0 rfl rfl rfl rfl (StepS.move rfl) (by kernel_rfl) (by kernel_rfl) (by kernel_rfl) rfl (.inr (fun _ s => s)) ?_
                    refine TA.takeW 1 rfl rfl rfl rfl (StepS.nilc rfl) (by kernel_rfl) (by kernel_rfl) (by kernel_rfl) rfl (.inr (fun _ s => s)) ?_
                    refine TA.takeW 2 rfl rfl rfl rfl (StepS.fld rfl kfieldB_126_2_51_true) (by kernel_rfl) (by kernel_rfl) (by kernel_rfl) rfl (.inr (fun _ s => s)) ?_
                    refine TA.takeW 3 rfl rfl rfl rfl (StepS.fld rfl kfieldB_45_2_2_true) (by kernel_rfl) (by kernel_rfl) (by kernel_rfl) rfl (.inr (fun _ s => s)) ?_
                    refine TA.take 4 rfl rfl rfl rfl (StepS.ldB rfl (Ent.at 1 rfl) kscalB_22_true rfl) (by kernel_rfl) (by kernel_rfl) (by kernel_rfl) (by kernel_rfl) (by kernel_rfl) (fun _ s => s) ?_
                    refine TA.takeW 5 rfl rfl rfl rfl (StepS.move rfl) (by kernel_rfl) (by kernel_rfl) (by kernel_rfl) rfl (.inr (fun _ s => s)) ?_
                    refine TA.takeW 6 rfl rfl rfl rfl (StepS.move rfl) (by kernel_rfl) (by kernel_rfl) (by kernel_rfl) rfl (.inr (fun _ s => s)) ?_
                    refine TA.takeW 7 rfl rfl rfl rfl (StepS.nilc rfl) (by kernel_rfl) (by kernel_rfl) (by kernel_rfl) rfl (.inr (fun _ s => s)) ?_
                    refine TA.takeW 8 rfl rfl rfl rfl (StepS.fld rfl kfieldB_126_2_51_true) (by kernel_rfl) (by kernel_rfl) (by kernel_rfl) rfl (.inr (fun _ s => s)) ?_
                    refine TA.takeW 9 rfl rfl rfl rfl (StepS.fld rfl kfieldB_45_3_3_true) (by kernel_rfl) (by kernel_rfl) (by kernel_rfl) rfl (.inr (fun _ s => s)) ?_
                    refine TA.take 10 rfl rfl rfl rfl (StepS.ldB rfl (Ent.at 1 rfl) kscalB_22_true rfl) (by kernel_rfl) (by kernel_rfl) (by kernel_rfl) (by kernel_rfl) (by kernel_rfl) (fun _ s => s) ?_
                    refine TA.takeW 11 rfl rfl rfl rfl (StepS.move rfl) (by kernel_rfl) (by kernel_rfl) (by kernel_rfl) rfl (.inr (fun _ s => s)) ?_
                    refine TA.takeW 12 rfl rfl rfl rfl (StepS.move rfl) (by kernel_rfl) (by kernel_rfl) (by kernel_rfl) rfl (.inr (fun _ s => s)) ?_
                    refine TA.takeW 13 rfl rfl rfl rfl (StepS.nilc rfl) (by kernel_rfl) (by kernel_rfl) (by kernel_rfl) rfl (.inr (fun _ s => s)) ?_
                    refine TA.takeW 14 rfl rfl rfl rfl (StepS.fld rfl kfieldB_126_2_51_true) (by kernel_rfl) (by kernel_rfl) (by kernel_rfl) rfl (.inr (fun _ s => s)) ?_
                    refine TA.takeW 15 rfl rfl rfl rfl (StepS.fld rfl kfieldB_45_4_4_true) (by kernel_rfl) (by kernel_rfl) (by kernel_rfl) rfl (.inr (fun _ s => s)) ?_
                    refine TA.take 16 rfl rfl rfl rfl (StepS.ldB rfl (Ent.at 1 rfl) kscalB_22_true rfl) (by kernel_rfl) (by kernel_rfl) (by kernel_rfl) (by kernel_rfl) (by kernel_rfl) (fun _ s => s) ?_
                    refine TA.takeW 17 rfl rfl rfl rfl (StepS.move rfl) (by kernel_rfl) (by kernel_rfl) (by kernel_rfl) rfl (.inr (fun _ s => s)) ?_
                    refine TA.takeW 18 rfl rfl rfl rfl (StepS.fld rfl kfieldB_106_3_3_true) (by kernel_rfl) (by kernel_rfl) (by kernel_rfl) rfl (.inr (fun _ s => s)) ?_
                    refine TA.take 19 rfl rfl rfl rfl (StepS.ldB rfl (Ent.at 0 rfl) kscalB_3_true rfl) (by kernel_rfl) (by kernel_rfl) (by kernel_rfl) (by kernel_rfl) (by kernel_rfl) (fun _ s => s) ?_
                    refine TA.takeW 20 rfl rfl rfl rfl (StepS.fld rfl kfieldB_106_3_3_true) (by kernel_rfl) (by kernel_rfl) (by kernel_rfl) rfl (.inr (fun _ s => s)) ?_
                    refine TA.takeW 22 rfl rfl rfl rfl (StepS.move rfl) (by kernel_rfl) (by kernel_rfl) (by kernel_rfl) rfl (.inr (fun _ s => s)) ?_
                    refine TA.takeW 23 rfl rfl rfl rfl (StepS.nilc rfl) (by kernel_rfl) (by kernel_rfl) (by kernel_rfl) rfl (.inr (fun _ s => s)) ?_
                    refine TA.takeW 24 rfl rfl rfl rfl (StepS.fld rfl kfieldB_123_4_4_true) (by kernel_rfl) (by kernel_rfl) (by kernel_rfl) rfl (.inr (fun _ s => s)) ?_
                    refine TA.take 25 rfl rfl rfl rfl (StepS.ldD (i := a1.2.2.2) (sz := 5) (k := 4) [I a0.1] [u0_51, I a0.2.2.1, h0_1, h0_2, h0_3] (f := cTiu32iu32iii) (xs := tl10 a0.2.1) (y := x15) rfl (Ent.at 1 rfl) kscalB_3_true rfl (by simp only [List.length_cons, List.length_nil] <;> omega) (fun _ => rfl) hx16 rfl) (by kernel_rfl) (by kernel_rfl) (by kernel_rfl) (by kernel_rfl) (by kernel_rfl) (fun _ s => s) ?_
                    refine TA.take 26 rfl rfl rfl rfl (StepS.idx rfl rfl (OwnS.rd (Ent.at 2 rfl)) ksliceB_22_3_1_true (idx_spec hxq59_26_2).1 (idxm_lt hxq59_26_2)) (by kernel_rfl) (by kernel_rfl) (by kernel_rfl) (by kernel_rfl) (by kernel_rfl) (fun _ s => s) ?_
                    refine TA.all2 (i := 21) (j := 27) (by kernel_rfl) ?_ ?_
                    · refine TB.of rfl ?_
                      refine TO.s rfl rfl rfl (StepS.ldB rfl (Ent.at 0 rfl) kscalB_3_true rfl) ?_
                      refine TA.back (.inr (fun _ s => s)) ?_
                      refine TA.all1 (i := 27) (by kernel_rfl) ?_
                      refine TB.of rfl ?_
                      refine TO.stO (i := a1.2.1.toNat) (off := 0) (us := [I a1.2.2.2]) 2 a1.2.2.2 rfl rfl rfl ksizeB_3_1_true rfl rfl rfl (idx_spec hxq59_26_2).2 rfl (by simp [Value.oneCell']) rfl ?_
                      refine TA.back (.inl (by kernel_rfl)) ?_
                      refine TA.all1 (i := 28) (by kernel_rfl) ?_
                      refine TB.of rfl ?_
                      refine TO.s rfl rfl rfl (StepS.idx rfl rfl (OwnS.rd (Ent.at 3 rfl)) ksliceB_22_3_1_true (idx_spec hxq59_28_2).1 (idxm_lt hxq59_28_2)) ?_
                      refine TA.back (.inl (by kernel_rfl)) ?_
                      refine TA.all1 (i := 29) (by kernel_rfl) ?_
                      refine TB.of rfl ?_
                      refine TO.stO (i := a1.2.1.toNat) (off := 0) (us := [I a1.2.2.2]) 3 a1.2.2.2 rfl rfl rfl ksizeB_3_1_true rfl rfl rfl (idx_spec hxq59_28_2).2 rfl (by simp [Value.oneCell']) rfl ?_
                      refine TA.back (.inl (by kernel_rfl)) ?_
                      refine TA.all1 (i := 30) (by kernel_rfl) ?_
                      refine TB.of rfl ?_
                      refine TO.s rfl rfl rfl (StepS.idx rfl rfl (OwnS.rd (Ent.at 4 rfl)) ksliceB_22_3_1_true (idx_spec hxq59_30_2).1 (idxm_lt hxq59_30_2)) ?_
                      refine TA.back (.inl (by kernel_rfl)) ?_
                      refine TA.all1 (i := 31) (by kernel_rfl) ?_
                      refine TB.of rfl ?_
                      refine TO.stO (i := a1.2.1.toNat) (off := 0) (us := [I x15.2.2.2.2]) 4 x15.2.2.2.2 rfl rfl rfl ksizeB_3_1_true rfl rfl rfl (idx_spec hxq59_30_2).2 rfl (by simp [Value.oneCell']) rfl ?_
                      refine TA.back (.inl (by kernel_rfl)) ?_
                      cases hj63
                      refine TA.nil (by kernel_rfl) fun a w e s => ?_
                      exact ⟨e.sub (lk_of_allIn ⟨rfl, rfl, rfl, trivial⟩), s⟩
                    · refine TB.of rfl ?_
                      refine TO.stO (i := a1.2.1.toNat) (off := 0) (us := [I a1.2.2.2]) 2 a1.2.2.2 rfl rfl rfl ksizeB_3_1_true rfl rfl rfl (idx_spec hxq59_26_2).2 rfl (by simp [Value.oneCell']) rfl ?_
                      refine TA.back (.inl (by kernel_rfl)) ?_
                      refine TA.all1 (i := 21) (by kernel_rfl) ?_
                      refine TB.of rfl ?_
                      refine TO.s rfl rfl rfl (StepS.ldB rfl (Ent.at 0 rfl) kscalB_3_true rfl) ?_
                      refine TA.back (.inl (by kernel_rfl)) ?_
                      refine TA.all1 (i := 28) (by kernel_rfl) ?_
                      refine TB.of rfl ?_
                      refine TO.s rfl rfl rfl (StepS.idx rfl rfl (OwnS.rd (Ent.at 3 rfl)) ksliceB_22_3_1_true (idx_spec hxq59_28_2).1 (idxm_lt hxq59_28_2)) ?_
                      refine TA.back (.inl (by kernel_rfl)) ?_
                      refine TA.all1 (i := 29) (by kernel_rfl) ?_
                      refine TB.of rfl ?_
                      refine TO.stO (i := a1.2.1.toNat) (off := 0) (us := [I a1.2.2.2]) 3 a1.2.2.2 rfl rfl rfl ksizeB_3_1_true rfl rfl rfl (idx_spec hxq59_28_2).2 rfl (by simp [Value.oneCell']) rfl ?_
                      refine TA.back (.inl (by kernel_rfl)) ?_
                      refine TA.all1 (i := 30) (by kernel_rfl) ?_
                      refine TB.of rfl ?_
                      refine TO.s rfl rfl rfl (StepS.idx rfl rfl (OwnS.rd (Ent.at 4 rfl)) ksliceB_22_3_1_true (idx_spec hxq59_30_2).1 (idxm_lt hxq59_30_2)) ?_
                      refine TA.back (.inl (by kernel_rfl)) ?_
                      refine TA.all1 (i := 31) (by kernel_rfl) ?_
                      refine TB.of rfl ?_
                      refine TO.stO (i := a1.2.1.toNat) (off := 0) (us := [I x15.2.2.2.2]) 4 x15.2.2.2.2 rfl rfl rfl ksizeB_3_1_true rfl rfl rfl (idx_spec hxq59_30_2).2 rfl (by simp [Value.oneCell']) rfl ?_
                      refine TA.back (.inl (by kernel_rfl)) ?_
                      cases hj63
                      refine TA.nil (by kernel_rfl) fun a w e s => ?_
                      exact ⟨e.sub (lk_of_allIn ⟨rfl, rfl, rfl, trivial⟩), s⟩
                  · intro a w ⟨he, hs⟩
                    refine TC.use ?_ he hs
                    refine TC.k ?_
                    refine TC.region_tail 9 kfollows_mixedOrders_true (by kernel_rfl) ?_
                    refine TS.s rfl rfl rfl (StepS.move rfl) ?_
                    refine TS.s rfl rfl rfl (StepS.nilc rfl) ?_
                    refine TS.s rfl rfl rfl (StepS.fld rfl kfieldB_123_1_1_true) ?_
                    obtain ⟨x64, hx65, hm⟩ := bind_some hm
                    refine TS.s rfl rfl rfl (StepS.ldD (i := a1.2.2.2) (sz := 5) (k := 1) [I a0.1] [u0_51, I a0.2.2.1, h0_1, h0_2, h0_3] (f := cTiu32iu32iii) (xs := tl10 a0.2.1) (y := x64) rfl (Ent.at 1 rfl) kscalB_36_true rfl (by simp only [List.length_cons, List.length_nil] <;> omega) (fun _ => rfl) hx65 rfl) ?_
                    refine TS.s rfl rfl rfl (StepS.move rfl) ?_
                    obtain ⟨k66, hk67, hm⟩ := bind_some hm
                    refine TS.s rfl rfl rfl (StepS.shlk (m := 1#32) rfl rfl hk67) ?_
                    refine TS.s rfl rfl rfl (StepS.bitU rfl rfl rfl) ?_
                    refine TS.s rfl rfl rfl (StepS.nilc rfl) ?_
                    refine TS.s rfl rfl rfl (StepS.fld rfl kfieldB_123_1_1_true) ?_
                    refine TS.nil ?_
                    refine TO.at ?_
                    obtain ⟨x68, hx69, hm⟩ := bind_some hm
                    obtain ⟨z70, hz71, hm⟩ := bind_some hm
                    refine TO.stD (i := a1.2.2.2) (sz := 5) (j := 1) (us := [U (x64.2.1 ||| ((1#32) <<< k66))]) (cs' := [I a0.1, U z70.1.1, U z70.1.2.1, I z70.1.2.2.1, I z70.1.2.2.2.1, I z70.1.2.2.2.2, U z70.2.1.1, U z70.2.1.2.1, I z70.2.1.2.2.1, I z70.2.1.2.2.2.1, I z70.2.1.2.2.2.2, U z70.2.2.1.1, U z70.2.2.1.2.1, I z70.2.2.1.2.2.1, I z70.2.2.1.2.2.2.1, I z70.2.2.1.2.2.2.2, U z70.2.2.2.1.1, U z70.2.2.2.1.2.1, I z70.2.2.2.1.2.2.1, I z70.2.2.2.1.2.2.2.1, I z70.2.2.2.1.2.2.2.2, U z70.2.2.2.2.1.1, U z70.2.2.2.2.1.2.1, I z70.2.2.2.2.1.2.2.1, I z70.2.2.2.2.1.2.2.2.1, I z70.2.2.2.2.1.2.2.2.2, U z70.2.2.2.2.2.1.1, U z70.2.2.2.2.2.1.2.1, I z70.2.2.2.2.2.1.2.2.1, I z70.2.2.2.2.2.1.2.2.2.1, I z70.2.2.2.2.2.1.2.2.2.2, U z70.2.2.2.2.2.2.1.1, U z70.2.2.2.2.2.2.1.2.1, I z70.2.2.2.2.2.2.1.2.2.1, I z70.2.2.2.2.2.2.1.2.2.2.1, I z70.2.2.2.2.2.2.1.2.2.2.2, U z70.2.2.2.2.2.2.2.1.1, U z70.2.2.2.2.2.2.2.1.2.1, I z70.2.2.2.2.2.2.2.1.2.2.1, I z70.2.2.2.2.2.2.2.1.2.2.2.1, I z70.2.2.2.2.2.2.2.1.2.2.2.2, U z70.2.2.2.2.2.2.2.2.1.1, U z70.2.2.2.2.2.2.2.2.1.2.1, I z70.2.2.2.2.2.2.2.2.1.2.2.1, I z70.2.2.2.2.2.2.2.2.1.2.2.2.1, I z70.2.2.2.2.2.2.2.2.1.2.2.2.2, U z70.2.2.2.2.2.2.2.2.2.1, U z70.2.2.2.2.2.2.2.2.2.2.1, I z70.2.2.2.2.2.2.2.2.2.2.2.1, I z70.2.2.2.2.2.2.2.2.2.2.2.2.1, I z70.2.2.2.2.2.2.2.2.2.2.2.2.2, u0_51, I a0.2.2.1, h0_1, h0_2, h0_3]) 1 [I a0.1] [u0_51, I a0.2.2.1, h0_1, h0_2, h0_3] (f := cTiu32iu32iii) (xs := tl10 a0.2.1) (xs' := tl10 z70) (y0 := x68) (y1 := (x68.1, (x64.2.1 ||| ((1#32) <<< k66)), x68.2.2.1, x68.2.2.2.1, x68.2.2.2.2)) rfl rfl rfl ksizeB_36_1_true rfl rfl (by simp [Value.oneCell']) rfl (by simp only [List.length_cons, List.length_nil] <;> omega) (fun _ => rfl) hx69 rfl rfl (as10_spec hz71) rfl ?_
                    refine TO.code ?_
                    refine TC.k ?_
                    refine TC.region ?_
                    refine TO.s rfl rfl rfl (StepS.move rfl) ?_
                    refine TO.s rfl rfl rfl (StepS.move rfl) ?_
                    refine TO.s rfl rfl rfl (StepS.nilc rfl) ?_
                    refine TO.s rfl rfl rfl (StepS.fld rfl kfieldB_123_1_1_true) ?_
                    obtain ⟨x72, hx73, hm⟩ := bind_some hm
                    refine TO.s rfl rfl rfl (StepS.ldD (i := a1.2.2.2) (sz := 5) (k := 1) [I a0.1] [u0_51, I a0.2.2.1, h0_1, h0_2, h0_3] (f := cTiu32iu32iii) (xs := tl10 z70) (y := x72) rfl (Ent.at 1 rfl) kscalB_36_true rfl (by simp only [List.length_cons, List.length_nil] <;> omega) (fun _ => rfl) hx73 rfl) ?_
                    refine TO.ghost (fun _ s => Sat.front 1 rfl s) ?_
                    obtain ⟨⟨r74, r75⟩, hc76, hm⟩ := bind_some hm
                    refine TO.callO kcallB_91_true rfl rfl rfl (fun _ st => C91 (a0 := a0.1)  hc76 st) ?_
                    rintro _ _ ⟨rfl, rfl⟩
                    refine TO.code ?_
                    obtain ⟨x77, hj78, hm⟩ := bind_some hm
                    first | refine TC.cutM (fun a w => Mid 218 B [] (Bx b0_ 126 [I r75, U z70.1.1, U z70.1.2.1, I z70.1.2.2.1, I z70.1.2.2.2.1, I z70.1.2.2.2.2, U z70.2.1.1, U z70.2.1.2.1, I z70.2.1.2.2.1, I z70.2.1.2.2.2.1, I z70.2.1.2.2.2.2, U z70.2.2.1.1, U z70.2.2.1.2.1, I z70.2.2.1.2.2.1, I z70.2.2.1.2.2.2.1, I z70.2.2.1.2.2.2.2, U z70.2.2.2.1.1, U z70.2.2.2.1.2.1, I z70.2.2.2.1.2.2.1, I z70.2.2.2.1.2.2.2.1, I z70.2.2.2.1.2.2.2.2, U z70.2.2.2.2.1.1, U z70.2.2.2.2.1.2.1, I z70.2.2.2.2.1.2.2.1, I z70.2.2.2.2.1.2.2.2.1, I z70.2.2.2.2.1.2.2.2.2, U z70.2.2.2.2.2.1.1, U z70.2.2.2.2.2.1.2.1, I z70.2.2.2.2.2.1.2.2.1, I z70.2.2.2.2.2.1.2.2.2.1, I z70.2.2.2.2.2.1.2.2.2.2, U z70.2.2.2.2.2.2.1.1, U z70.2.2.2.2.2.2.1.2.1, I z70.2.2.2.2.2.2.1.2.2.1, I z70.2.2.2.2.2.2.1.2.2.2.1, I z70.2.2.2.2.2.2.1.2.2.2.2, U z70.2.2.2.2.2.2.2.1.1, U z70.2.2.2.2.2.2.2.1.2.1, I z70.2.2.2.2.2.2.2.1.2.2.1, I z70.2.2.2.2.2.2.2.1.2.2.2.1, I z70.2.2.2.2.2.2.2.1.2.2.2.2, U z70.2.2.2.2.2.2.2.2.1.1, U z70.2.2.2.2.2.2.2.2.1.2.1, I z70.2.2.2.2.2.2.2.2.1.2.2.1, I z70.2.2.2.2.2.2.2.2.1.2.2.2.1, I z70.2.2.2.2.2.2.2.2.1.2.2.2.2, U z70.2.2.2.2.2.2.2.2.2.1, U z70.2.2.2.2.2.2.2.2.2.2.1, I z70.2.2.2.2.2.2.2.2.2.2.2.1, I z70.2.2.2.2.2.2.2.2.2.2.2.2.1, I z70.2.2.2.2.2.2.2.2.2.2.2.2.2, u0_51, I x77, h0_1, h0_2, h0_3] :: Bx b7 106 [I a1.1, I a1.2.1, I a1.2.2.1, I a1.2.2.2] :: OwnS 3 1 h0_1 (y60.map cI) :: OwnS 3 1 h0_2 (y61.map cI) :: OwnS 3 1 h0_3 (y62.map cI) :: L) a w) ?_ ?_ | refine TC.cutX (fun a w => Mid 218 B [] (Bx b0_ 126 [I r75, U z70.1.1, U z70.1.2.1, I z70.1.2.2.1, I z70.1.2.2.2.1, I z70.1.2.2.2.2, U z70.2.1.1, U z70.2.1.2.1, I z70.2.1.2.2.1, I z70.2.1.2.2.2.1, I z70.2.1.2.2.2.2, U z70.2.2.1.1, U z70.2.2.1.2.1, I z70.2.2.1.2.2.1, I z70.2.2.1.2.2.2.1, I z70.2.2.1.2.2.2.2, U z70.2.2.2.1.1, U z70.2.2.2.1.2.1, I z70.2.2.2.1.2.2.1, I z70.2.2.2.1.2.2.2.1, I z70.2.2.2.1.2.2.2.2, U z70.2.2.2.2.1.1, U z70.2.2.2.2.1.2.1, I z70.2.2.2.2.1.2.2.1, I z70.2.2.2.2.1.2.2.2.1, I z70.2.2.2.2.1.2.2.2.2, U z70.2.2.2.2.2.1.1, U z70.2.2.2.2.2.1.2.1, I z70.2.2.2.2.2.1.2.2.1, I z70.2.2.2.2.2.1.2.2.2.1, I z70.2.2.2.2.2.1.2.2.2.2, U z70.2.2.2.2.2.2.1.1, U z70.2.2.2.2.2.2.1.2.1, I z70.2.2.2.2.2.2.1.2.2.1, I z70.2.2.2.2.2.2.1.2.2.2.1, I z70.2.2.2.2.2.2.1.2.2.2.2, U z70.2.2.2.2.2.2.2.1.1, U z70.2.2.2.2.2.2.2.1.2.1, I z70.2.2.2.2.2.2.2.1.2.2.1, I z70.2.2.2.2.2.2.2.1.2.2.2.1, I z70.2.2.2.2.2.2.2.1.2.2.2.2, U z70.2.2.2.2.2.2.2.2.1.1, U z70.2.2.2.2.2.2.2.2.1.2.1, I z70.2.2.2.2.2.2.2.2.1.2.2.1, I z70.2.2.2.2.2.2.2.2.1.2.2.2.1, I z70.2.2.2.2.2.2.2.2.1.2.2.2.2, U z70.2.2.2.2.2.2.2.2.2.1, U z70.2.2.2.2.2.2.2.2.2.2.1, I z70.2.2.2.2.2.2.2.2.2.2.2.1, I z70.2.2.2.2.2.2.2.2.2.2.2.2.1, I z70.2.2.2.2.2.2.2.2.2.2.2.2.2, u0_51, I x77, h0_1, h0_2, h0_3] :: Bx b7 106 [I a1.1, I a1.2.1, I a1.2.2.1, I a1.2.2.2] :: OwnS 3 1 h0_1 (y60.map cI) :: OwnS 3 1 h0_2 (y61.map cI) :: OwnS 3 1 h0_3 (y62.map cI) :: L) a w) ?_ ?_
                    · refine TC.cond rfl (fun hc79 => ?_) (fun hc79 => ?_)
                      · replace hj78 := cond_t hc79 hj78
                        refine TC.region ?_
                        refine TO.s rfl rfl rfl (StepS.move rfl) ?_
                        refine TO.s rfl rfl rfl (StepS.move rfl) ?_
                        refine TO.s rfl rfl rfl (StepS.nilc rfl) ?_
                        refine TO.s rfl rfl rfl (StepS.fld rfl kfieldB_123_4_4_true) ?_
                        obtain ⟨x80, hx81, hj78⟩ := bind_some hj78
                        refine TO.s rfl rfl rfl (StepS.ldD (i := a1.2.2.2) (sz := 5) (k := 4) [I r75] [u0_51, I a0.2.2.1, h0_1, h0_2, h0_3] (f := cTiu32iu32iii) (xs := tl10 z70) (y := x80) rfl (Ent.at 0 rfl) kscalB_3_true rfl (by simp only [List.length_cons, List.length_nil] <;> omega) (fun _ => rfl) hx81 rfl) ?_
                        refine TO.s rfl rfl rfl (StepS.nilc rfl) ?_
                        refine TO.s rfl rfl rfl (StepS.fld rfl kfieldB_126_2_51_true) ?_
                        refine TO.s rfl rfl rfl (StepS.fld rfl kfieldB_45_1_1_true) ?_
                        refine TO.stB (us := [I x80.2.2.2.2]) 0 [I r75, U z70.1.1, U z70.1.2.1, I z70.1.2.2.1, I z70.1.2.2.2.1, I z70.1.2.2.2.2, U z70.2.1.1, U z70.2.1.2.1, I z70.2.1.2.2.1, I z70.2.1.2.2.2.1, I z70.2.1.2.2.2.2, U z70.2.2.1.1, U z70.2.2.1.2.1, I z70.2.2.1.2.2.1, I z70.2.2.1.2.2.2.1, I z70.2.2.1.2.2.2.2, U z70.2.2.2.1.1, U z70.2.2.2.1.2.1, I z70.2.2.2.1.2.2.1, I z70.2.2.2.1.2.2.2.1, I z70.2.2.2.1.2.2.2.2, U z70.2.2.2.2.1.1, U z70.2.2.2.2.1.2.1, I z70.2.2.2.2.1.2.2.1, I z70.2.2.2.2.1.2.2.2.1, I z70.2.2.2.2.1.2.2.2.2, U z70.2.2.2.2.2.1.1, U z70.2.2.2.2.2.1.2.1, I z70.2.2.2.2.2.1.2.2.1, I z70.2.2.2.2.2.1.2.2.2.1, I z70.2.2.2.2.2.1.2.2.2.2, U z70.2.2.2.2.2.2.1.1, U z70.2.2.2.2.2.2.1.2.1, I z70.2.2.2.2.2.2.1.2.2.1, I z70.2.2.2.2.2.2.1.2.2.2.1, I z70.2.2.2.2.2.2.1.2.2.2.2, U z70.2.2.2.2.2.2.2.1.1, U z70.2.2.2.2.2.2.2.1.2.1, I z70.2.2.2.2.2.2.2.1.2.2.1, I z70.2.2.2.2.2.2.2.1.2.2.2.1, I z70.2.2.2.2.2.2.2.1.2.2.2.2, U z70.2.2.2.2.2.2.2.2.1.1, U z70.2.2.2.2.2.2.2.2.1.2.1, I z70.2.2.2.2.2.2.2.2.1.2.2.1, I z70.2.2.2.2.2.2.2.2.1.2.2.2.1, I z70.2.2.2.2.2.2.2.2.1.2.2.2.2, U z70.2.2.2.2.2.2.2.2.2.1, U z70.2.2.2.2.2.2.2.2.2.2.1, I z70.2.2.2.2.2.2.2.2.2.2.2.1, I z70.2.2.2.2.2.2.2.2.2.2.2.2.1, I z70.2.2.2.2.2.2.2.2.2.2.2.2.2, u0_51, I x80.2.2.2.2, h0_1, h0_2, h0_3] rfl rfl rfl ksizeB_3_1_true rfl rfl rfl (by simp [Value.oneCell']) rfl ?_
                        cases hj78
                        refine TO.nil fun a w e s => ?_
                        exact ⟨e.sub (lk_of_allIn trivial), s⟩
                      · replace hj78 := cond_f hc79 hj78
                        cases hj78
                        refine TC.skip fun a w e s => ?_
                        exact ⟨e.sub (lk_of_allIn trivial), s⟩
                    · intro a w ⟨he, hs⟩
                      refine TC.use ?_ he hs
                      refine TC.k ?_
                      refine TC.region ?_
                      refine TO.s rfl rfl rfl (StepS.assign rfl) ?_
                      refine TO.code ?_
                      cases hm
                      refine TC.ret fun a w e s => ?_
                      refine FRet.mk1 (P := Try.prog) (fn := Try.f58) (t := 4) e rfl rfl ?_
                      refine ⟨_, _, rfl, ⟨(h0_1), (h0_2), (h0_3), rfl, rfl⟩, ?_⟩
                      refine s.mono fun _ s => ?_
                      replace s := Sat.front 4 rfl s
                      replace s := Sat.front 4 rfl s
                      replace s := Sat.front 4 rfl s
                      replace s := Sat.front 3 rfl s
                      replace s := Sat.erase 4 s
                      exact s
            · replace hm := cond_f hc54 hm
              refine TC.skipk ?_
              refine TC.k ?_
              refine TC.region ?_
              refine TO.s rfl rfl rfl (StepS.assign rfl) ?_
              refine TO.code ?_
              cases hm
              refine TC.ret fun a w e s => ?_
              refine FRet.mk1 (P := Try.prog) (fn := Try.f58) (t := 4) e rfl rfl ?_
              refine ⟨_, _, rfl, ⟨(h0_1), (h0_2), (h0_3), rfl, rfl⟩, ?_⟩
              refine s.mono fun _ s => ?_
              replace s := Sat.front 4 rfl s
              replace s := Sat.front 4 rfl s
              replace s := Sat.front 4 rfl s
              replace s := Sat.front 4 rfl s
              replace s := Sat.erase 4 s
              exact s

set_option maxRecDepth 100000 in
theorem C23 {B : World} {L : List HP} {a0 : Int} {a1 : List (Int × Int × Int × Int)} {h1 : Value} {r0 : (List Int) × Int × (List Int) × (List Int) × List Int} {r1 : Int} (e1 : Ent L (Rd 4 h1 (a1.map cTiiii))) (hm : F23 a0 a1 = some (r0, r1)) {w : World} (st : St B L w) : Calls Try.prog 23 #[I a0, h1] w (fun e w' => ∃ v M, e = .returned v ∧ (∃ (qv1 : Value) (qv2 : Value) (qv3 : Value) (qv4 : Value), v = .tuple #[.agg #[qv1, I r0.2.1, qv2, qv3, qv4], I r1] ∧ M = (OwnS 28 1 qv1 (r0.1.map cI) :: OwnS 3 1 qv2 (r0.2.2.1.map cI) :: OwnS 3 1 qv3 (r0.2.2.2.1.map cI) :: OwnS 3 1 qv4 (r0.2.2.2.2.map cI) :: L)) ∧ St B M w') := by
  refine calls_of (N := 56) (L := L) (args := [I a0, h1]) Try.func23 rfl rfl rfl ?_ st
  dsimp only [F23] at hm
  refine TC.k ?_
  refine TC.region ?_
  refine TO.alloc kinfo_45_bind_zero_some_agg_slice_none_0_0_I_0_slice_none_0_0_slice_none_0_0_slice_none_0_0 rfl rfl fun b5 => ?_
  refine TO.s rfl rfl rfl (StepS.assign rfl) ?_
  refine TO.code ?_
  refine TC.k ?_
  refine TC.k ?_
  refine TC.region ?_
  refine TO.s rfl rfl rfl (StepS.move rfl) ?_
  refine TO.s rfl rfl rfl (StepS.cmp rfl rfl rfl) ?_
  refine TO.s rfl rfl rfl (StepS.move rfl) ?_
  refine TO.mid1 3 14 (.bool ((decide (a0 < 1)) || (decide (a0 > 6)))) ?_ ?_
  · refine bcase ((decide (a0 < 1))) (fun hb6 => ?_) (fun hb6 => ?_)
    · refine TO.skip rfl rfl rfl (skipT hb6) rfl rfl ?_
      refine TO.skip rfl rfl rfl (skipT hb6) rfl rfl ?_
      refine TO.s rfl rfl rfl (StepS.pickT rfl hb6 rfl) ?_
      exact TO.up1 3 0 rfl rfl (by rw [hb6]; rfl) rfl
    · refine TO.sw rfl rfl rfl hb6 rfl rfl (StepS.move rfl) ?_
      refine TO.sw rfl rfl rfl hb6 rfl rfl (StepS.cmp rfl rfl rfl) ?_
      refine TO.s rfl rfl rfl (StepS.pickF rfl hb6 rfl) ?_
      exact TO.up1 3 0 rfl rfl (by rw [hb6]; rfl) rfl
  refine TO.s rfl rfl rfl (StepS.move rfl) ?_
  refine TO.mid1 4 19 (.bool (((decide (a0 < 1)) || (decide (a0 > 6))) || (decide ((a1.length : Int) > 60)))) ?_ ?_
  · refine bcase (((decide (a0 < 1)) || (decide (a0 > 6)))) (fun hb7 => ?_) (fun hb7 => ?_)
    · refine TO.skip rfl rfl rfl (skipT hb7) rfl rfl ?_
      refine TO.skip rfl rfl rfl (skipT hb7) rfl rfl ?_
      refine TO.skip rfl rfl rfl (skipT hb7) rfl rfl ?_
      refine TO.s rfl rfl rfl (StepS.pickT rfl hb7 rfl) ?_
      exact TO.up1 4 0 rfl rfl (by rw [hb7]; rfl) rfl
    · refine TO.sw rfl rfl rfl hb7 rfl rfl (StepS.move rfl) ?_
      refine TO.sw rfl rfl rfl hb7 rfl rfl (StepS.lenm rfl e1.tl ksliceB_23_106_4_true rfl) ?_
      refine TO.sw rfl rfl rfl hb7 rfl rfl (StepS.cmp rfl rfl rfl) ?_
      refine TO.s rfl rfl rfl (StepS.pickF rfl hb7 rfl) ?_
      exact TO.up1 4 0 rfl rfl (by rw [hb7]; rfl) rfl
  refine TO.code ?_
  refine TC.cond rfl (fun hc8 => ?_) (fun hc8 => ?_)
  · replace hm := cond_t hc8 hm
    refine TC.k ?_
    refine TC.region ?_
    refine TO.s rfl rfl rfl (StepS.build (cs := [.slice none 0 0, I 0, .slice none 0 0, .slice none 0 0, .slice none 0 0]) rfl (by kernel_rfl)) ?_
    refine TO.stB (us := [.slice none 0 0, I 0, .slice none 0 0, .slice none 0 0, .slice none 0 0]) 0 [.slice none 0 0, I 0, .slice none 0 0, .slice none 0 0, .slice none 0 0] rfl rfl rfl ksizeB_45_5_true rfl rfl rfl (by simp [Value.oneCell']) rfl ?_
    refine TO.s rfl rfl rfl (StepS.assign rfl) ?_
    refine TO.code ?_
    cases hm
    refine TC.ret fun a w e s => ?_
    refine FRet.cell2 (P := Try.prog) (fn := Try.f23) e s rfl rfl rfl (Ent.at 0 rfl) kaggB_45_5_true rfl ?_
    refine ⟨_, _, rfl, ⟨(.slice none 0 0), (.slice none 0 0), (.slice none 0 0), (.slice none 0 0), rfl, rfl⟩, ?_⟩
    refine s.mono fun _ s => ?_
    replace s := Sat.nilS (e := 3) (sz := 1) (f := cI) s
    replace s := Sat.nilS (e := 3) (sz := 1) (f := cI) s
    replace s := Sat.nilS (e := 3) (sz := 1) (f := cI) s
    replace s := Sat.nilS (e := 28) (sz := 1) (f := cI) s
    replace s := Sat.erase 4 s
    exact s
  · replace hm := cond_f hc8 hm
    refine TC.skipk ?_
    refine TC.k ?_
    obtain ⟨⟨y12, y15, y18⟩, hj19, hm⟩ := bind_some hm
    first | refine TC.cutM (fun a w => ∃ v10 : Value, ∃ v13 : Value, ∃ v16 : Value, ∃ bq9_9_1 : Nat, Mid 56 B [(1, h1), (4, .pointer (some ⟨b5, 0, none⟩)), (6, .pointer (some ⟨bq9_9_1, 0, none⟩))] (OwnS 3 1 v10 (y12.map cI) :: OwnS 3 1 v13 (y15.map cI) :: OwnS 3 1 v16 (y18.map cI) :: Bx bq9_9_1 126 [I a0, U 0, U 0, I 0, I 0, I 0, U 0, U 0, I 0, I 0, I 0, U 0, U 0, I 0, I 0, I 0, U 0, U 0, I 0, I 0, I 0, U 0, U 0, I 0, I 0, I 0, U 0, U 0, I 0, I 0, I 0, U 0, U 0, I 0, I 0, I 0, U 0, U 0, I 0, I 0, I 0, U 0, U 0, I 0, I 0, I 0, U 0, U 0, I 0, I 0, I 0, .slice none 0 0, I (-1), v10, v13, v16] :: Bx b5 45 [.slice none 0 0, I 0, .slice none 0 0, .slice none 0 0, .slice none 0 0] :: L) a w) ?_ ?_ | refine TC.cutX (fun a w => ∃ v10 : Value, ∃ v13 : Value, ∃ v16 : Value, ∃ bq9_9_1 : Nat, Mid 56 B [(1, h1), (4, .pointer (some ⟨b5, 0, none⟩)), (6, .pointer (some ⟨bq9_9_1, 0, none⟩))] (OwnS 3 1 v10 (y12.map cI) :: OwnS 3 1 v13 (y15.map cI) :: OwnS 3 1 v16 (y18.map cI) :: Bx bq9_9_1 126 [I a0, U 0, U 0, I 0, I 0, I 0, U 0, U 0, I 0, I 0, I 0, U 0, U 0, I 0, I 0, I 0, U 0, U 0, I 0, I 0, I 0, U 0, U 0, I 0, I 0, I 0, U 0, U 0, I 0, I 0, I 0, U 0, U 0, I 0, I 0, I 0, U 0, U 0, I 0, I 0, I 0, U 0, U 0, I 0, I 0, I 0, U 0, U 0, I 0, I 0, I 0, .slice none 0 0, I (-1), v10, v13, v16] :: Bx b5 45 [.slice none 0 0, I 0, .slice none 0 0, .slice none 0 0, .slice none 0 0] :: L) a w) ?_ ?_
    · obtain ⟨yq9_2_1, hkq9_2_2, hj19⟩ := bind_some hj19
      obtain ⟨yq9_4_1, hkq9_4_2, hj19⟩ := bind_some hj19
      obtain ⟨yq9_6_1, hkq9_6_2, hj19⟩ := bind_some hj19
      refine TC.region_any (Bx b5 45 [.slice none 0 0, I 0, .slice none 0 0, .slice none 0 0, .slice none 0 0] :: L) 11 11 kfollows_mixedOrders_true rfl ?_
      refine TA.takeW 0 rfl rfl rfl rfl (StepS.move rfl) (by kernel_rfl) (by kernel_rfl) (by kernel_rfl) rfl (.inr (fun _ s => s)) ?_
      refine TA.takeW 1 rfl rfl rfl rfl (StepS.move rfl) (by kernel_rfl) (by kernel_rfl) (by kernel_rfl) rfl (.inr (fun _ s => s)) ?_
      refine TA.takeW 3 rfl rfl rfl rfl (StepS.move rfl) (by kernel_rfl) (by kernel_rfl) (by kernel_rfl) rfl (.inr (fun _ s => s)) ?_
      refine TA.takeW 5 rfl rfl rfl rfl (StepS.move rfl) (by kernel_rfl) (by kernel_rfl) (by kernel_rfl) rfl (.inr (fun _ s => s)) ?_
      refine TA.all3 (i := 2) (j := 4) (k := 6) (by kernel_rfl) ?_ ?_ ?_
      · refine TB.of rfl ?_
        refine TO.mkS (f := cI) (za := 0) kelemB_22_3_1_8_true kinfo_3_bind_zero_some_I_0 rfl (by decide) rfl rfl hkq9_2_2 rfl fun vq9_2_3 => ?_
        refine TA.back (.inr (fun _ s => by replace s := Sat.front 1 rfl s; replace s := Sat.erase 1 s; exact s)) ?_
        refine TA.all2 (i := 4) (j := 6) (by kernel_rfl) ?_ ?_
        · refine TB.of rfl ?_
          refine TO.mkS (f := cI) (za := 0) kelemB_22_3_1_8_true kinfo_3_bind_zero_some_I_0 rfl (by decide) rfl rfl hkq9_4_2 rfl fun vq9_4_3 => ?_
          refine TA.back (.inr (fun _ s => by replace s := Sat.front 2 rfl s; replace s := Sat.erase 1 s; replace s := Sat.erase 1 s; exact s)) ?_
          refine TA.all1 (i := 6) (by kernel_rfl) ?_
          refine TB.of rfl ?_
          refine TO.mkS (f := cI) (za := 0) kelemB_22_3_1_8_true kinfo_3_bind_zero_some_I_0 rfl (by decide) rfl rfl hkq9_6_2 rfl fun vq9_6_3 => ?_
          refine TA.back (.inr (fun _ s => by replace s := Sat.front 3 rfl s; replace s := Sat.erase 1 s; replace s := Sat.erase 1 s; replace s := Sat.erase 1 s; exact s)) ?_
          refine TA.all1 (i := 7) (by kernel_rfl) ?_
          refine TB.of rfl ?_
          refine TO.pure (fun _ s => Rd.one (OwnS.rd (Ent.at 2 rfl)) s) fun ocq9_7_1 => ?_
          refine TO.pure (fun _ s => Rd.one (OwnS.rd (Ent.at 1 rfl)) s) fun ocq9_7_2 => ?_
          refine TO.pure (fun _ s => Rd.one (OwnS.rd (Ent.at 0 rfl)) s) fun ocq9_7_3 => ?_
          refine TO.s rfl rfl rfl (StepS.buildS (us := [(1, I (-1)), (2, .agg #[vq9_2_3]), (3, .agg #[vq9_4_3]), (4, .agg #[vq9_6_3])]) (cs := [.slice none 0 0, I (-1), vq9_2_3, vq9_4_3, vq9_6_3]) rfl (by simp only [List.map_cons, List.map_nil, ocq9_7_1.2, ocq9_7_2.2, ocq9_7_3.2] <;> rfl) (by kernel_rfl)) ?_
          refine TA.back (.inr (fun _ s => by replace s := Sat.front 3 rfl s; replace s := Sat.erase 1 s; replace s := Sat.erase 1 s; replace s := Sat.erase 1 s; exact s)) ?_
          refine TA.all1 (i := 8) (by kernel_rfl) ?_
          refine TB.of rfl ?_
          refine TO.s rfl rfl rfl (StepS.buildS (us := [(0, I a0), (2, .agg #[.slice none 0 0, I (-1), vq9_2_3, vq9_4_3, vq9_6_3])]) (cs := [I a0, U 0, U 0, I 0, I 0, I 0, U 0, U 0, I 0, I 0, I 0, U 0, U 0, I 0, I 0, I 0, U 0, U 0, I 0, I 0, I 0, U 0, U 0, I 0, I 0, I 0, U 0, U 0, I 0, I 0, I 0, U 0, U 0, I 0, I 0, I 0, U 0, U 0, I 0, I 0, I 0, U 0, U 0, I 0, I 0, I 0, U 0, U 0, I 0, I 0, I 0, .slice none 0 0, I (-1), vq9_2_3, vq9_4_3, vq9_6_3]) rfl (by simp only [List.map_cons, List.map_nil, ] <;> rfl) (by kernel_rfl)) ?_
          refine TA.back (.inr (fun _ s => by replace s := Sat.front 3 rfl s; replace s := Sat.erase 1 s; replace s := Sat.erase 1 s; replace s := Sat.erase 1 s; exact s)) ?_
          refine TA.all1 (i := 9) (by kernel_rfl) ?_
          refine TB.of rfl ?_
          refine TO.box (cs := [I a0, U 0, U 0, I 0, I 0, I 0, U 0, U 0, I 0, I 0, I 0, U 0, U 0, I 0, I 0, I 0, U 0, U 0, I 0, I 0, I 0, U 0, U 0, I 0, I 0, I 0, U 0, U 0, I 0, I 0, I 0, U 0, U 0, I 0, I 0, I 0, U 0, U 0, I 0, I 0, I 0, U 0, U 0, I 0, I 0, I 0, U 0, U 0, I 0, I 0, I 0, .slice none 0 0, I (-1), vq9_2_3, vq9_4_3, vq9_6_3]) rfl rfl rfl fun bq9_9_1 => ?_
          refine TA.back (.inr (fun _ s => by replace s := Sat.front 4 rfl s; replace s := Sat.erase 1 s; replace s := Sat.erase 1 s; replace s := Sat.erase 1 s; replace s := Sat.erase 1 s; exact s)) ?_
          refine TA.takeW 10 rfl rfl rfl rfl (StepS.assign rfl) (by kernel_rfl) (by kernel_rfl) (by kernel_rfl) rfl (.inr (fun _ s => by replace s := Sat.front 4 rfl s; replace s := Sat.erase 1 s; replace s := Sat.erase 1 s; replace s := Sat.erase 1 s; replace s := Sat.erase 1 s; exact s)) ?_
          cases hj19
          refine TA.nil (by kernel_rfl) fun a w e s => ?_
          exact ⟨vq9_2_3, vq9_4_3, vq9_6_3, bq9_9_1, e.sub (lk_of_allIn ⟨rfl, rfl, rfl, trivial⟩), s.mono fun _ s => (by replace s := Sat.front 4 rfl s; replace s := Sat.front 1 rfl s; replace s := Sat.front 2 rfl s; replace s := Sat.front 3 rfl s; replace s := Sat.front 4 rfl s; exact s)⟩
        · refine TB.of rfl ?_
          refine TO.mkS (f := cI) (za := 0) kelemB_22_3_1_8_true kinfo_3_bind_zero_some_I_0 rfl (by decide) rfl rfl hkq9_6_2 rfl fun vq9_6_3 => ?_
          refine TA.back (.inr (fun _ s => by replace s := Sat.front 2 rfl s; replace s := Sat.erase 1 s; replace s := Sat.erase 1 s; exact s)) ?_
          refine TA.all1 (i := 4) (by kernel_rfl) ?_
          refine TB.of rfl ?_
          refine TO.mkS (f := cI) (za := 0) kelemB_22_3_1_8_true kinfo_3_bind_zero_some_I_0 rfl (by decide) rfl rfl hkq9_4_2 rfl fun vq9_4_3 => ?_
          refine TA.back (.inr (fun _ s => by replace s := Sat.front 3 rfl s; replace s := Sat.erase 1 s; replace s := Sat.erase 1 s; replace s := Sat.erase 1 s; exact s)) ?_
          refine TA.all1 (i := 7) (by kernel_rfl) ?_
          refine TB.of rfl ?_
          refine TO.pure (fun _ s => Rd.one (OwnS.rd (Ent.at 2 rfl)) s) fun ocq9_7_1 => ?_
          refine TO.pure (fun _ s => Rd.one (OwnS.rd (Ent.at 0 rfl)) s) fun ocq9_7_2 => ?_
          refine TO.pure (fun _ s => Rd.one (OwnS.rd (Ent.at 1 rfl)) s) fun ocq9_7_3 => ?_
          refine TO.s rfl rfl rfl (StepS.buildS (us := [(1, I (-1)), (2, .agg #[vq9_2_3]), (3, .agg #[vq9_4_3]), (4, .agg #[vq9_6_3])]) (cs := [.slice none 0 0, I (-1), vq9_2_3, vq9_4_3, vq9_6_3]) rfl (by simp only [List.map_cons, List.map_nil, ocq9_7_1.2, ocq9_7_2.2, ocq9_7_3.2] <;> rfl) (by kernel_rfl)) ?_
          refine TA.back (.inr (fun _ s => by replace s := Sat.front 3 rfl s; replace s := Sat.erase 1 s; replace s := Sat.erase 1 s; replace s := Sat.erase 1 s; exact s)) ?_
          refine TA.all1 (i := 8) (by kernel_rfl) ?_
          refine TB.of rfl ?_
          refine TO.s rfl rfl rfl (StepS.buildS (us := [(0, I a0), (2, .agg #[.slice none 0 0, I (-1), vq9_2_3, vq9_4_3, vq9_6_3])]) (cs := [I a0, U 0, U 0, I 0, I 0, I 0, U 0, U 0, I 0, I 0, I 0, U 0, U 0, I 0, I 0, I 0, U 0, U 0, I 0, I 0, I 0, U 0, U 0, I 0, I 0, I 0, U 0, U 0, I 0, I 0, I 0, U 0, U 0, I 0, I 0, I 0, U 0, U 0, I 0, I 0, I 0, U 0, U 0, I 0, I 0, I 0, U 0, U 0, I 0, I 0, I 0, .slice none 0 0, I (-1), vq9_2_3, vq9_4_3, vq9_6_3]) rfl (by simp only [List.map_cons, List.map_nil, ] <;> rfl) (by kernel_rfl)) ?_
          refine TA.back (.inr (fun _ s => by replace s := Sat.front 3 rfl s; replace s := Sat.erase 1 s; replace s := Sat.erase 1 s; replace s := Sat.erase 1 s; exact s)) ?_
          refine TA.all1 (i := 9) (by kernel_rfl) ?_
          refine TB.of rfl ?_
          refine TO.box (cs := [I a0, U 0, U 0, I 0, I 0, I 0, U 0, U 0, I 0, I 0, I 0, U 0, U 0, I 0, I 0, I 0, U 0, U 0, I 0, I 0, I 0, U 0, U 0, I 0, I 0, I 0, U 0, U 0, I 0, I 0, I 0, U 0, U 0, I 0, I 0, I 0, U 0, U 0, I 0, I 0, I 0, U 0, U 0, I 0, I 0, I 0, U 0, U 0, I 0, I 0, I 0, .slice none 0 0, I (-1), vq9_2_3, vq9_4_3, vq9_6_3]) rfl rfl rfl fun bq9_9_1 => ?_
          refine TA.back (.inr (fun _ s => by replace s := Sat.front 4 rfl s; replace s := Sat.erase 1 s; replace s := Sat.erase 1 s; replace s := Sat.erase 1 s; replace s := Sat.erase 1 s; exact s)) ?_
          refine TA.takeW 10 rfl rfl rfl rfl (StepS.assign rfl) (by kernel_rfl) (by kernel_rfl) (by kernel_rfl) rfl (.inr (fun _ s => by replace s := Sat.front 4 rfl s; replace s := Sat.erase 1 s; replace s := Sat.erase 1 s; replace s := Sat.erase 1 s; replace s := Sat.erase 1 s; exact s)) ?_
          cases hj19
          refine TA.nil (by kernel_rfl) fun a w e s => ?_
          exact ⟨vq9_2_3, vq9_4_3, vq9_6_3, bq9_9_1, e.sub (lk_of_allIn ⟨rfl, rfl, rfl, trivial⟩), s.mono fun _ s => (by replace s := Sat.front 4 rfl s; replace s := Sat.front 1 rfl s; replace s := Sat.front 3 rfl s; replace s := Sat.front 3 rfl s; replace s := Sat.front 4 rfl s; exact s)⟩
      · refine TB.of rfl ?_
        refine TO.mkS (f := cI) (za := 0) kelemB_22_3_1_8_true kinfo_3_bind_zero_some_I_0 rfl (by decide) rfl rfl hkq9_4_2 rfl fun vq9_4_3 => ?_
        refine TA.back (.inr (fun _ s => by replace s := Sat.front 1 rfl s; replace s := Sat.erase 1 s; exact s)) ?_
        refine TA.all2 (i := 2) (j := 6) (by kernel_rfl) ?_ ?_
        · refine TB.of rfl ?_
          refine TO.mkS (f := cI) (za := 0) kelemB_22_3_1_8_true kinfo_3_bind_zero_some_I_0 rfl (by decide) rfl rfl hkq9_2_2 rfl fun vq9_2_3 => ?_
          refine TA.back (.inr (fun _ s => by replace s := Sat.front 2 rfl s; replace s := Sat.erase 1 s; replace s := Sat.erase 1 s; exact s)) ?_
          refine TA.all1 (i := 6) (by kernel_rfl) ?_
          refine TB.of rfl ?_
          refine TO.mkS (f := cI) (za := 0) kelemB_22_3_1_8_true kinfo_3_bind_zero_some_I_0 rfl (by decide) rfl rfl hkq9_6_2 rfl fun vq9_6_3 => ?_
          refine TA.back (.inr (fun _ s => by replace s := Sat.front 3 rfl s; replace s := Sat.erase 1 s; replace s := Sat.erase 1 s; replace s := Sat.erase 1 s; exact s)) ?_
          refine TA.all1 (i := 7) (by kernel_rfl) ?_
          refine TB.of rfl ?_
          refine TO.pure (fun _ s => Rd.one (OwnS.rd (Ent.at 1 rfl)) s) fun ocq9_7_1 => ?_
          refine TO.pure (fun _ s => Rd.one (OwnS.rd (Ent.at 2 rfl)) s) fun ocq9_7_2 => ?_
          refine TO.pure (fun _ s => Rd.one (OwnS.rd (Ent.at 0 rfl)) s) fun ocq9_7_3 => ?_
          refine TO.s rfl rfl rfl (StepS.buildS (us := [(1, I (-1)), (2, .agg #[vq9_2_3]), (3, .agg #[vq9_4_3]), (4, .agg #[vq9_6_3])]) (cs := [.slice none 0 0, I (-1), vq9_2_3, vq9_4_3, vq9_6_3]) rfl (by simp only [List.map_cons, List.map_nil, ocq9_7_1.2, ocq9_7_2.2, ocq9_7_3.2] <;> rfl) (by kernel_rfl)) ?_
          refine TA.back (.inr (fun _ s => by replace s := Sat.front 3 rfl s; replace s := Sat.erase 1 s; replace s := Sat.erase 1 s; replace s := Sat.erase 1 s; exact s)) ?_
          refine TA.all1 (i := 8) (by kernel_rfl) ?_
          refine TB.of rfl ?_
          refine TO.s rfl rfl rfl (StepS.buildS (us := [(0, I a0), (2, .agg #[.slice none 0 0, I (-1), vq9_2_3, vq9_4_3, vq9_6_3])]) (cs := [I a0, U 0, U 0, I 0, I 0, I 0, U 0, U 0, I 0, I 0, I 0, U 0, U 0, I 0, I 0, I 0, U 0, U 0, I 0, I 0, I 0, U 0, U 0, I 0, I 0, I 0, U 0, U 0, I 0, I 0, I 0, U 0, U 0, I 0, I 0, I 0, U 0, U 0, I 0, I 0, I 0, U 0, U 0, I 0, I 0, I 0, U 0, U 0, I 0, I 0, I 0, .slice none 0 0, I (-1), vq9_2_3, vq9_4_3, vq9_6_3]) rfl (by simp only [List.map_cons, List.map_nil, ] <;> rfl) (by kernel_rfl)) ?_
          refine TA.back (.inr (fun _ s => by replace s := Sat.front 3 rfl s; replace s := Sat.erase 1 s; replace s := Sat.erase 1 s; replace s := Sat.erase 1 s; exact s)) ?_
          refine TA.all1 (i := 9) (by kernel_rfl) ?_
          refine TB.of rfl ?_
          refine TO.box (cs := [I a0, U 0, U 0, I 0, I 0, I 0, U 0, U 0, I 0, I 0, I 0, U 0, U 0, I 0, I 0, I 0, U 0, U 0, I 0, I 0, I 0, U 0, U 0, I 0, I 0, I 0, U 0, U 0, I 0, I 0, I 0, U 0, U 0, I 0, I 0, I 0, U 0, U 0, I 0, I 0, I 0, U 0, U 0, I 0, I 0, I 0, U 0, U 0, I 0, I 0, I 0, .slice none 0 0, I (-1), vq9_2_3, vq9_4_3, vq9_6_3]) rfl rfl rfl fun bq9_9_1 => ?_
          refine TA.back (.inr (fun _ s => by replace s := Sat.front 4 rfl s; replace s := Sat.erase 1 s; replace s := Sat.erase 1 s; replace s := Sat.erase 1 s; replace s := Sat.erase 1 s; exact s)) ?_
          refine TA.takeW 10 rfl rfl rfl rfl (StepS.assign rfl) (by kernel_rfl) (by kernel_rfl) (by kernel_rfl) rfl (.inr (fun _ s => by replace s := Sat.front 4 rfl s; replace s := Sat.erase 1 s; replace s := Sat.erase 1 s; replace s := Sat.erase 1 s; replace s := Sat.erase 1 s; exact s)) ?_
          cases hj19
          refine TA.nil (by kernel_rfl) fun a w e s => ?_
          exact ⟨vq9_2_3, vq9_4_3, vq9_6_3, bq9_9_1, e.sub (lk_of_allIn ⟨rfl, rfl, rfl, trivial⟩), s.mono fun _ s => (by replace s := Sat.front 4 rfl s; replace s := Sat.front 1 rfl s; replace s := Sat.front 2 rfl s; replace s := Sat.front 4 rfl s; replace s := Sat.front 4 rfl s; exact s)⟩
        · refine TB.of rfl ?_
          refine TO.mkS (f := cI) (za := 0) kelemB_22_3_1_8_true kinfo_3_bind_zero_some_I_0 rfl (by decide) rfl rfl hkq9_6_2 rfl fun vq9_6_3 => ?_
          refine TA.back (.inr (fun _ s => by replace s := Sat.front 2 rfl s; replace s := Sat.erase 1 s; replace s := Sat.erase 1 s; exact s)) ?_
          refine TA.all1 (i := 2) (by kernel_rfl) ?_
          refine TB.of rfl ?_
          refine TO.mkS (f := cI) (za := 0) kelemB_22_3_1_8_true kinfo_3_bind_zero_some_I_0 rfl (by decide) rfl rfl hkq9_2_2 rfl fun vq9_2_3 => ?_
          refine TA.back (.inr (fun _ s => by replace s := Sat.front 3 rfl s; replace s := Sat.erase 1 s; replace s := Sat.erase 1 s; replace s := Sat.erase 1 s; exact s)) ?_
          refine TA.all1 (i := 7) (by kernel_rfl) ?_
          refine TB.of rfl ?_
          refine TO.pure (fun _ s => Rd.one (OwnS.rd (Ent.at 0 rfl)) s) fun ocq9_7_1 => ?_
          refine TO.pure (fun _ s => Rd.one (OwnS.rd (Ent.at 2 rfl)) s) fun ocq9_7_2 => ?_
          refine TO.pure (fun _ s => Rd.one (OwnS.rd (Ent.at 1 rfl)) s) fun ocq9_7_3 => ?_
          refine TO.s rfl rfl rfl (StepS.buildS (us := [(1, I (-1)), (2, .agg #[vq9_2_3]), (3, .agg #[vq9_4_3]), (4, .agg #[vq9_6_3])]) (cs := [.slice none 0 0, I (-1), vq9_2_3, vq9_4_3, vq9_6_3]) rfl (by simp only [List.map_cons, List.map_nil, ocq9_7_1.2, ocq9_7_2.2, ocq9_7_3.2] <;> rfl) (by kernel_rfl)) ?_
          refine TA.back (.inr (fun _ s => by replace s := Sat.front 3 rfl s; replace s := Sat.erase 1 s; replace s := Sat.erase 1 s; replace s := Sat.erase 1 s; exact s)) ?_
          refine TA.all1 (i := 8) (by kernel_rfl) ?_
          refine TB.of rfl ?_
          refine TO.s rfl rfl rfl (StepS.buildS (us := [(0, I a0), (2, .agg #[.slice none 0 0, I (-1), vq9_2_3, vq9_4_3, vq9_6_3])]) (cs := [I a0, U 0, U 0, I 0, I 0, I 0, U 0, U 0, I 0, I 0, I 0, U 0, U 0, I 0, I 0, I 0, U 0, U 0, I 0, I 0, I 0, U 0, U 0, I 0, I 0, I 0, U 0, U 0, I 0, I 0, I 0, U 0, U 0, I 0, I 0, I 0, U 0, U 0, I 0, I 0, I 0, U 0, U 0, I 0, I 0, I 0, U 0, U 0, I 0, I 0, I 0, .slice none 0 0, I (-1), vq9_2_3, vq9_4_3, vq9_6_3]) rfl (by simp only [List.map_cons, List.map_nil, ] <;> rfl) (by kernel_rfl)) ?_
          refine TA.back (.inr (fun _ s => by replace s := Sat.front 3 rfl s; replace s := Sat.erase 1 s; replace s := Sat.erase 1 s; replace s := Sat.erase 1 s; exact s)) ?_
          refine TA.all1 (i := 9) (by kernel_rfl) ?_
          refine TB.of rfl ?_
          refine TO.box (cs := [I a0, U 0, U 0, I 0, I 0, I 0, U 0, U 0, I 0, I 0, I 0, U 0, U 0, I 0, I 0, I 0, U 0, U 0, I 0, I 0, I 0, U 0, U 0, I 0, I 0, I 0, U 0, U 0, I 0, I 0, I 0, U 0, U 0, I 0, I 0, I 0, U 0, U 0, I 0, I 0, I 0, U 0, U 0, I 0, I 0, I 0, U 0, U 0, I 0, I 0, I 0, .slice none 0 0, I (-1), vq9_2_3, vq9_4_3, vq9_6_3]) rfl rfl rfl fun bq9_9_1 => ?_
          refine TA.back (.inr (fun _ s => by replace s := Sat.front 4 rfl s; replace s := Sat.erase 1 s; replace s := Sat.erase 1 s; replace s := Sat.erase 1 s; replace s := Sat.erase 1 s; exact s)) ?_
          refine TA.takeW 10 rfl rfl rfl rfl (StepS.assign rfl) (by kernel_rfl) (by kernel_rfl) (by kernel_rfl) rfl (.inr (fun _ s => by replace s := Sat.front 4 rfl s; replace s := Sat.erase 1 s; replace s := Sat.erase 1 s; replace s := Sat.erase 1 s; replace s := Sat.erase 1 s; exact s)) ?_
          cases hj19
          refine TA.nil (by kernel_rfl) fun a w e s => ?_
          exact ⟨vq9_2_3, vq9_4_3, vq9_6_3, bq9_9_1, e.sub (lk_of_allIn ⟨rfl, rfl, rfl, trivial⟩), s.mono fun _ s => (by replace s := Sat.front 4 rfl s; replace s := Sat.front 1 rfl s; replace s := Sat.front 3 rfl s; replace s := Sat.front 4 rfl s; replace s := Sat.front 4 rfl s; exact s)⟩
      · refine TB.of rfl ?_
        refine TO.mkS (f := cI) (za := 0) kelemB_22_3_1_8_true kinfo_3_bind_zero_some_I_0 rfl (by decide) rfl rfl hkq9_6_2 rfl fun vq9_6_3 => ?_
        refine TA.back (.inr (fun _ s => by replace s := Sat.front 1 rfl s; replace s := Sat.erase 1 s; exact s)) ?_
        refine TA.all2 (i := 2) (j := 4) (by kernel_rfl) ?_ ?_
        · refine TB.of rfl ?_
          refine TO.mkS (f := cI) (za := 0) kelemB_22_3_1_8_true kinfo_3_bind_zero_some_I_0 rfl (by decide) rfl rfl hkq9_2_2 rfl fun vq9_2_3 => ?_
          refine TA.back (.inr (fun _ s => by replace s := Sat.front 2 rfl s; replace s := Sat.erase 1 s; replace s := Sat.erase 1 s; exact s)) ?_
          refine TA.all1 (i := 4) (by kernel_rfl) ?_
          refine TB.of rfl ?_
          refine TO.mkS (f := cI) (za := 0) kelemB_22_3_1_8_true kinfo_3_bind_zero_some_I_0 rfl (by decide) rfl rfl hkq9_4_2 rfl fun vq9_4_3 => ?_
          refine TA.back (.inr (fun _ s => by replace s := Sat.front 3 rfl s; replace s := Sat.erase 1 s; replace s := Sat.erase 1 s; replace s := Sat.erase 1 s; exact s)) ?_
          refine TA.all1 (i := 7) (by kernel_rfl) ?_
          refine TB.of rfl ?_
          refine TO.pure (fun _ s => Rd.one (OwnS.rd (Ent.at 1 rfl)) s) fun ocq9_7_1 => ?_
          refine TO.pure (fun _ s => Rd.one (OwnS.rd (Ent.at 0 rfl)) s) fun ocq9_7_2 => ?_
          refine TO.pure (fun _ s => Rd.one (OwnS.rd (Ent.at 2 rfl)) s) fun ocq9_7_3 => ?_
          refine TO.s rfl rfl rfl (StepS.buildS (us := [(1, I (-1)), (2, .agg #[vq9_2_3]), (3, .agg #[vq9_4_3]), (4, .agg #[vq9_6_3])]) (cs := [.slice none 0 0, I (-1), vq9_2_3, vq9_4_3, vq9_6_3]) rfl (by simp only [List.map_cons, List.map_nil, ocq9_7_1.2, ocq9_7_2.2, ocq9_7_3.2] <;> rfl) (by kernel_rfl)) ?_
          refine TA.back (.inr (fun _ s => by replace s := Sat.front 3 rfl s; replace s := Sat.erase 1 s; replace s := Sat.erase 1 s; replace s := Sat.erase 1 s; exact s)) ?_
          refine TA.all1 (i := 8) (by kernel_rfl) ?_
          refine TB.of rfl ?_
          refine TO.s rfl rfl rfl (StepS.buildS (us := [(0, I a0), (2, .agg #[.slice none 0 0, I (-1), vq9_2_3, vq9_4_3, vq9_6_3])]) (cs := [I a0, U 0, U 0, I 0, I 0, I 0, U 0, U 0, I 0, I 0, I 0, U 0, U 0, I 0, I 0, I 0, U 0, U 0, I 0, I 0, I 0, U 0, U 0, I 0, I 0, I 0, U 0, U 0, I 0, I 0, I 0, U 0, U 0, I 0, I 0, I 0, U 0, U 0, I 0, I 0, I 0, U 0, U 0, I 0, I 0, I 0, U 0, U 0, I 0, I 0, I 0, .slice none 0 0, I (-1), vq9_2_3, vq9_4_3, vq9_6_3]) rfl (by simp only [List.map_cons, List.map_nil, ] <;> rfl) (by kernel_rfl)) ?_
          refine TA.back (.inr (fun _ s => by replace s := Sat.front 3 rfl s; replace s := Sat.erase 1 s; replace s := Sat.erase 1 s; replace s := Sat.erase 1 s; exact s)) ?_
          refine TA.all1 (i := 9) (by kernel_rfl) ?_
          refine TB.of rfl ?_
          refine TO.box (cs := [I a0, U 0, U 0, I 0, I 0, I 0, U 0, U 0, I 0, I 0, I 0, U 0, U 0, I 0, I 0, I 0, U 0, U 0, I 0, I 0, I 0, U 0, U 0, I 0, I 0, I 0, U 0, U 0, I 0, I 0, I 0, U 0, U 0, I 0, I 0, I 0, U 0, U 0, I 0, I 0, I 0, U 0, U 0, I 0, I 0, I 0, U 0, U 0, I 0, I 0, I 0, .slice none 0 0, I (-1), vq9_2_3, vq9_4_3, vq9_6_3]) rfl rfl rfl fun bq9_9_1 => ?_
          refine TA.back (.inr (fun _ s => by replace s := Sat.front 4 rfl s; replace s := Sat.erase 1 s; replace s := Sat.erase 1 s; replace s := Sat.erase 1 s; replace s := Sat.erase 1 s; exact s)) ?_
          refine TA.takeW 10 rfl rfl rfl rfl (StepS.assign rfl) (by kernel_rfl) (by kernel_rfl) (by kernel_rfl) rfl (.inr (fun _ s => by replace s := Sat.front 4 rfl s; replace s := Sat.erase 1 s; replace s := Sat.erase 1 s; replace s := Sat.erase 1 s; replace s := Sat.erase 1 s; exact s)) ?_
          cases hj19
          refine TA.nil (by kernel_rfl) fun a w e s => ?_
          exact ⟨vq9_2_3, vq9_4_3, vq9_6_3, bq9_9_1, e.sub (lk_of_allIn ⟨rfl, rfl, rfl, trivial⟩), s.mono fun _ s => (by replace s := Sat.front 4 rfl s; replace s := Sat.front 1 rfl s; replace s := Sat.front 4 rfl s; replace s := Sat.front 3 rfl s; replace s := Sat.front 4 rfl s; exact s)⟩
        · refine TB.of rfl ?_
          refine TO.mkS (f := cI) (za := 0) kelemB_22_3_1_8_true kinfo_3_bind_zero_some_I_0 rfl (by decide) rfl rfl hkq9_4_2 rfl fun vq9_4_3 => ?_
          refine TA.back (.inr (fun _ s => by replace s := Sat.front 2 rfl s; replace s := Sat.erase 1 s; replace s := Sat.erase 1 s; exact s)) ?_
          refine TA.all1 (i := 2) (by kernel_rfl) ?_
          refine TB.of rfl ?_
          refine TO.mkS (f := cI) (za := 0) kelemB_22_3_1_8_true kinfo_3_bind_zero_some_I_0 rfl (by decide) rfl rfl hkq9_2_2 rfl fun vq9_2_3 => ?_
          refine TA.back (.inr (fun _ s => by replace s := Sat.front 3 rfl s; replace s := Sat.erase 1 s; replace s := Sat.erase 1 s; replace s := Sat.erase 1 s; exact s)) ?_
          refine TA.all1 (i := 7) (by kernel_rfl) ?_
          refine TB.of rfl ?_
          refine TO.pure (fun _ s => Rd.one (OwnS.rd (Ent.at 0 rfl)) s) fun ocq9_7_1 => ?_
          refine TO.pure (fun _ s => Rd.one (OwnS.rd (Ent.at 1 rfl)) s) fun ocq9_7_2 => ?_
          refine TO.pure (fun _ s => Rd.one (OwnS.rd (Ent.at 2 rfl)) s) fun ocq9_7_3 => ?_
          refine TO.s rfl rfl rfl (StepS.buildS (us := [(1, I (-1)), (2, .agg #[vq9_2_3]), (3, .agg #[vq9_4_3]), (4, .agg #[vq9_6_3])]) (cs := [.slice none 0 0, I (-1), vq9_2_3, vq9_4_3, vq9_6_3]) rfl (by simp only [List.map_cons, List.map_nil, ocq9_7_1.2, ocq9_7_2.2, ocq9_7_3.2] <;> rfl) (by kernel_rfl)) ?_
          refine TA.back (.inr (fun _ s => by replace s := Sat.front 3 rfl s; replace s := Sat.erase 1 s; replace s := Sat.erase 1 s; replace s := Sat.erase 1 s; exact s)) ?_
          refine TA.all1 (i := 8) (by kernel_rfl) ?_
          refine TB.of rfl ?_
          refine TO.s rfl rfl rfl (StepS.buildS (us := [(0, I a0), (2, .agg #[.slice none 0 0, I (-1), vq9_2_3, vq9_4_3, vq9_6_3])]) (cs := [I a0, U 0, U 0, I 0, I 0, I 0, U 0, U 0, I 0, I 0, I 0, U 0, U 0, I 0, I 0, I 0, U 0, U 0, I 0, I 0, I 0, U 0, U 0, I 0, I 0, I 0, U 0, U 0, I 0, I 0, I 0, U 0, U 0, I 0, I 0, I 0, U 0, U 0, I 0, I 0, I 0, U 0, U 0, I 0, I 0, I 0, U 0, U 0, I 0, I 0, I 0, .slice none 0 0, I (-1), vq9_2_3, vq9_4_3, vq9_6_3]) rfl (by simp only [List.map_cons, List.map_nil, ] <;> rfl) (by kernel_rfl)) ?_
          refine TA.back (.inr (fun _ s => by replace s := Sat.front 3 rfl s; replace s := Sat.erase 1 s; replace s := Sat.erase 1 s; replace s := Sat.erase 1 s; exact s)) ?_
          refine TA.all1 (i := 9) (by kernel_rfl) ?_
          refine TB.of rfl ?_
          refine TO.box (cs := [I a0, U 0, U 0, I 0, I 0, I 0, U 0, U 0, I 0, I 0, I 0, U 0, U 0, I 0, I 0, I 0, U 0, U 0, I 0, I 0, I 0, U 0, U 0, I 0, I 0, I 0, U 0, U 0, I 0, I 0, I 0, U 0, U 0, I 0, I 0, I 0, U 0, U 0, I 0, I 0, I 0, U 0, U 0, I 0, I 0, I 0, U 0, U 0, I 0, I 0, I 0, .slice none 0 0, I (-1), vq9_2_3, vq9_4_3, vq9_6_3]) rfl rfl rfl fun bq9_9_1 => ?_
          refine TA.back (.inr (fun _ s => by replace s := Sat.front 4 rfl s; replace s := Sat.erase 1 s; replace s := Sat.erase 1 s; replace s := Sat.erase 1 s; replace s := Sat.erase 1 s; exact s)) ?_
          refine TA.takeW 10 rfl rfl rfl rfl (StepS.assign rfl) (by kernel_rfl) (by kernel_rfl) (by kernel_rfl) rfl (.inr (fun _ s => by replace s := Sat.front 4 rfl s; replace s := Sat.erase 1 s; replace s := Sat.erase 1 s; replace s := Sat.erase 1 s; replace s := Sat.erase 1 s; exact s)) ?_
          cases hj19
          refine TA.nil (by kernel_rfl) fun a w e s => ?_
          exact ⟨vq9_2_3, vq9_4_3, vq9_6_3, bq9_9_1, e.sub (lk_of_allIn ⟨rfl, rfl, rfl, trivial⟩), s.mono fun _ s => (by replace s := Sat.front 4 rfl s; replace s := Sat.front 1 rfl s; replace s := Sat.front 4 rfl s; replace s := Sat.front 4 rfl s; replace s := Sat.front 4 rfl s; exact s)⟩
    · intro a w ⟨v10, v13, v16, bq9_9_1, he, hs⟩
      refine TC.use ?_ he hs
      refine TC.k ?_
      refine TC.k ?_
      refine TC.region ?_
      refine TO.s rfl rfl rfl (StepS.move rfl) ?_
      refine TO.s rfl rfl rfl (StepS.lenm rfl e1.tl.tl.tl.tl.tl ksliceB_23_106_4_true rfl) ?_
      refine TO.s rfl rfl rfl (StepS.move rfl) ?_
      refine TO.code ?_
      obtain ⟨o67, hw68, hm⟩ := bind_some hm
      refine TC.loop hw68 (fun (y22, y25, y28, y31, z32, x33, x34, x35) => fun a w => ∃ v20 : Value, ∃ v23 : Value, ∃ v26 : Value, ∃ v29 : Value, Mid 56 B [(4, .pointer (some ⟨b5, 0, none⟩)), (6, .pointer (some ⟨bq9_9_1, 0, none⟩)), (31, h1), (32, I (a1.length : Int)), (33, I x35)] (OwnS 28 1 v20 (y22.map cI) :: OwnS 3 1 v23 (y25.map cI) :: OwnS 3 1 v26 (y28.map cI) :: OwnS 3 1 v29 (y31.map cI) :: Bx bq9_9_1 126 [I x33, U z32.1.1, U z32.1.2.1, I z32.1.2.2.1, I z32.1.2.2.2.1, I z32.1.2.2.2.2, U z32.2.1.1, U z32.2.1.2.1, I z32.2.1.2.2.1, I z32.2.1.2.2.2.1, I z32.2.1.2.2.2.2, U z32.2.2.1.1, U z32.2.2.1.2.1, I z32.2.2.1.2.2.1, I z32.2.2.1.2.2.2.1, I z32.2.2.1.2.2.2.2, U z32.2.2.2.1.1, U z32.2.2.2.1.2.1, I z32.2.2.2.1.2.2.1, I z32.2.2.2.1.2.2.2.1, I z32.2.2.2.1.2.2.2.2, U z32.2.2.2.2.1.1, U z32.2.2.2.2.1.2.1, I z32.2.2.2.2.1.2.2.1, I z32.2.2.2.2.1.2.2.2.1, I z32.2.2.2.2.1.2.2.2.2, U z32.2.2.2.2.2.1.1, U z32.2.2.2.2.2.1.2.1, I z32.2.2.2.2.2.1.2.2.1, I z32.2.2.2.2.2.1.2.2.2.1, I z32.2.2.2.2.2.1.2.2.2.2, U z32.2.2.2.2.2.2.1.1, U z32.2.2.2.2.2.2.1.2.1, I z32.2.2.2.2.2.2.1.2.2.1, I z32.2.2.2.2.2.2.1.2.2.2.1, I z32.2.2.2.2.2.2.1.2.2.2.2, U z32.2.2.2.2.2.2.2.1.1, U z32.2.2.2.2.2.2.2.1.2.1, I z32.2.2.2.2.2.2.2.1.2.2.1, I z32.2.2.2.2.2.2.2.1.2.2.2.1, I z32.2.2.2.2.2.2.2.1.2.2.2.2, U z32.2.2.2.2.2.2.2.2.1.1, U z32.2.2.2.2.2.2.2.2.1.2.1, I z32.2.2.2.2.2.2.2.2.1.2.2.1, I z32.2.2.2.2.2.2.2.2.1.2.2.2.1, I z32.2.2.2.2.2.2.2.2.1.2.2.2.2, U z32.2.2.2.2.2.2.2.2.2.1, U z32.2.2.2.2.2.2.2.2.2.2.1, I z32.2.2.2.2.2.2.2.2.2.2.2.1, I z32.2.2.2.2.2.2.2.2.2.2.2.2.1, I z32.2.2.2.2.2.2.2.2.2.2.2.2.2, v20, I x34, v23, v26, v29] :: Bx b5 45 [.slice none 0 0, I 0, .slice none 0 0, .slice none 0 0, .slice none 0 0] :: L) a w) (fun (y54, y57, y60, y63, z64, x65, x66) => fun a w => ∃ v52 : Value, ∃ v55 : Value, ∃ v58 : Value, ∃ v61 : Value, Mid 56 B [(4, .pointer (some ⟨b5, 0, none⟩)), (6, .pointer (some ⟨bq9_9_1, 0, none⟩))] (OwnS 28 1 v52 (y54.map cI) :: OwnS 3 1 v55 (y57.map cI) :: OwnS 3 1 v58 (y60.map cI) :: OwnS 3 1 v61 (y63.map cI) :: Bx bq9_9_1 126 [I x65, U z64.1.1, U z64.1.2.1, I z64.1.2.2.1, I z64.1.2.2.2.1, I z64.1.2.2.2.2, U z64.2.1.1, U z64.2.1.2.1, I z64.2.1.2.2.1, I z64.2.1.2.2.2.1, I z64.2.1.2.2.2.2, U z64.2.2.1.1, U z64.2.2.1.2.1, I z64.2.2.1.2.2.1, I z64.2.2.1.2.2.2.1, I z64.2.2.1.2.2.2.2, U z64.2.2.2.1.1, U z64.2.2.2.1.2.1, I z64.2.2.2.1.2.2.1, I z64.2.2.2.1.2.2.2.1, I z64.2.2.2.1.2.2.2.2, U z64.2.2.2.2.1.1, U z64.2.2.2.2.1.2.1, I z64.2.2.2.2.1.2.2.1, I z64.2.2.2.2.1.2.2.2.1, I z64.2.2.2.2.1.2.2.2.2, U z64.2.2.2.2.2.1.1, U z64.2.2.2.2.2.1.2.1, I z64.2.2.2.2.2.1.2.2.1, I z64.2.2.2.2.2.1.2.2.2.1, I z64.2.2.2.2.2.1.2.2.2.2, U z64.2.2.2.2.2.2.1.1, U z64.2.2.2.2.2.2.1.2.1, I z64.2.2.2.2.2.2.1.2.2.1, I z64.2.2.2.2.2.2.1.2.2.2.1, I z64.2.2.2.2.2.2.1.2.2.2.2, U z64.2.2.2.2.2.2.2.1.1, U z64.2.2.2.2.2.2.2.1.2.1, I z64.2.2.2.2.2.2.2.1.2.2.1, I z64.2.2.2.2.2.2.2.1.2.2.2.1, I z64.2.2.2.2.2.2.2.1.2.2.2.2, U z64.2.2.2.2.2.2.2.2.1.1, U z64.2.2.2.2.2.2.2.2.1.2.1, I z64.2.2.2.2.2.2.2.2.1.2.2.1, I z64.2.2.2.2.2.2.2.2.1.2.2.2.1, I z64.2.2.2.2.2.2.2.2.1.2.2.2.2, U z64.2.2.2.2.2.2.2.2.2.1, U z64.2.2.2.2.2.2.2.2.2.2.1, I z64.2.2.2.2.2.2.2.2.2.2.2.1, I z64.2.2.2.2.2.2.2.2.2.2.2.2.1, I z64.2.2.2.2.2.2.2.2.2.2.2.2.2, v52, I x66, v55, v58, v61] :: Bx b5 45 [.slice none 0 0, I 0, .slice none 0 0, .slice none 0 0, .slice none 0 0] :: L) a w) (fun (_ : Unit) _ _ => False) ?_ ?_ ?_ ?_
      · rintro ⟨y22, y25, y28, y31, z32, x33, x34, x35⟩ o67r hb69 a w ⟨v20, v23, v26, v29, he, hs⟩
        dsimp only [F23_L0] at hb69
        refine TC.use ?_ he hs
        refine TC.k ?_
        refine TC.region ?_
        refine TO.s rfl rfl rfl (StepS.cmp rfl rfl rfl) ?_
        refine TO.code ?_
        refine TC.k ?_
        refine TC.cond rfl (fun hc70 => ?_) (fun hc70 => ?_)
        · replace hb69 := cond_t hc70 hb69
          refine TC.skipk ?_
          refine TC.k ?_
          refine TC.block ?_
          refine TC.k ?_
          refine TC.region ?_
          obtain ⟨x71, hx72, hb69⟩ := bind_some hb69
          refine TO.s rfl rfl rfl (StepS.idx rfl rfl e1.tl.tl.tl.tl.tl.tl ksliceB_23_106_4_true (idx_spec hx72).1 (idxm_lt hx72)) ?_
          refine TO.s rfl rfl rfl (StepS.ldE rfl e1.tl.tl.tl.tl.tl.tl kaggB_106_4_true rfl (idxm hx72)) ?_
          refine TO.alloc kinfo_106_bind_zero_some_agg_I_0_I_0_I_0_I_0 rfl rfl fun b73 => ?_
          refine TO.stB (us := [I x71.1, I x71.2.1, I x71.2.2.1, I x71.2.2.2]) 0 [I x71.1, I x71.2.1, I x71.2.2.1, I x71.2.2.2] rfl rfl rfl ksizeB_106_4_true rfl rfl rfl (by simp [Value.oneCell']) rfl ?_
          refine TO.code ?_
          obtain ⟨⟨y77, y80, y83, y84, z86, x87, x88⟩, hj89, hb69⟩ := bind_some hb69
          first | refine TC.cutM (fun a w => ∃ v75 : Value, ∃ v78 : Value, ∃ v81 : Value, ∃ v85 : Value, Mid 56 B [(4, .pointer (some ⟨b5, 0, none⟩)), (6, .pointer (some ⟨bq9_9_1, 0, none⟩)), (31, h1), (32, I (a1.length : Int)), (33, I x35)] (OwnS 3 1 v75 (y77.map cI) :: OwnS 3 1 v78 (y80.map cI) :: OwnS 3 1 v81 (y83.map cI) :: Bx b73 106 [I x71.1, I x71.2.1, I x71.2.2.1, I x71.2.2.2] :: OwnS 28 1 v85 (y84.map cI) :: Bx bq9_9_1 126 [I x87, U z86.1.1, U z86.1.2.1, I z86.1.2.2.1, I z86.1.2.2.2.1, I z86.1.2.2.2.2, U z86.2.1.1, U z86.2.1.2.1, I z86.2.1.2.2.1, I z86.2.1.2.2.2.1, I z86.2.1.2.2.2.2, U z86.2.2.1.1, U z86.2.2.1.2.1, I z86.2.2.1.2.2.1, I z86.2.2.1.2.2.2.1, I z86.2.2.1.2.2.2.2, U z86.2.2.2.1.1, U z86.2.2.2.1.2.1, I z86.2.2.2.1.2.2.1, I z86.2.2.2.1.2.2.2.1, I z86.2.2.2.1.2.2.2.2, U z86.2.2.2.2.1.1, U z86.2.2.2.2.1.2.1, I z86.2.2.2.2.1.2.2.1, I z86.2.2.2.2.1.2.2.2.1, I z86.2.2.2.2.1.2.2.2.2, U z86.2.2.2.2.2.1.1, U z86.2.2.2.2.2.1.2.1, I z86.2.2.2.2.2.1.2.2.1, I z86.2.2.2.2.2.1.2.2.2.1, I z86.2.2.2.2.2.1.2.2.2.2, U z86.2.2.2.2.2.2.1.1, U z86.2.2.2.2.2.2.1.2.1, I z86.2.2.2.2.2.2.1.2.2.1, I z86.2.2.2.2.2.2.1.2.2.2.1, I z86.2.2.2.2.2.2.1.2.2.2.2, U z86.2.2.2.2.2.2.2.1.1, U z86.2.2.2.2.2.2.2.1.2.1, I z86.2.2.2.2.2.2.2.1.2.2.1, I z86.2.2.2.2.2.2.2.1.2.2.2.1, I z86.2.2.2.2.2.2.2.1.2.2.2.2, U z86.2.2.2.2.2.2.2.2.1.1, U z86.2.2.2.2.2.2.2.2.1.2.1, I z86.2.2.2.2.2.2.2.2.1.2.2.1, I z86.2.2.2.2.2.2.2.2.1.2.2.2.1, I z86.2.2.2.2.2.2.2.2.1.2.2.2.2, U z86.2.2.2.2.2.2.2.2.2.1, U z86.2.2.2.2.2.2.2.2.2.2.1, I z86.2.2.2.2.2.2.2.2.2.2.2.1, I z86.2.2.2.2.2.2.2.2.2.2.2.2.1, I z86.2.2.2.2.2.2.2.2.2.2.2.2.2, v85, I x88, v75, v78, v81] :: Bx b5 45 [.slice none 0 0, I 0, .slice none 0 0, .slice none 0 0, .slice none 0 0] :: L) a w) ?_ ?_ | refine TC.cutX (fun a w => ∃ v75 : Value, ∃ v78 : Value, ∃ v81 : Value, ∃ v85 : Value, Mid 56 B [(4, .pointer (some ⟨b5, 0, none⟩)), (6, .pointer (some ⟨bq9_9_1, 0, none⟩)), (31, h1), (32, I (a1.length : Int)), (33, I x35)] (OwnS 3 1 v75 (y77.map cI) :: OwnS 3 1 v78 (y80.map cI) :: OwnS 3 1 v81 (y83.map cI) :: Bx b73 106 [I x71.1, I x71.2.1, I x71.2.2.1, I x71.2.2.2] :: OwnS 28 1 v85 (y84.map cI) :: Bx bq9_9_1 126 [I x87, U z86.1.1, U z86.1.2.1, I z86.1.2.2.1, I z86.1.2.2.2.1, I z86.1.2.2.2.2, U z86.2.1.1, U z86.2.1.2.1, I z86.2.1.2.2.1, I z86.2.1.2.2.2.1, I z86.2.1.2.2.2.2, U z86.2.2.1.1, U z86.2.2.1.2.1, I z86.2.2.1.2.2.1, I z86.2.2.1.2.2.2.1, I z86.2.2.1.2.2.2.2, U z86.2.2.2.1.1, U z86.2.2.2.1.2.1, I z86.2.2.2.1.2.2.1, I z86.2.2.2.1.2.2.2.1, I z86.2.2.2.1.2.2.2.2, U z86.2.2.2.2.1.1, U z86.2.2.2.2.1.2.1, I z86.2.2.2.2.1.2.2.1, I z86.2.2.2.2.1.2.2.2.1, I z86.2.2.2.2.1.2.2.2.2, U z86.2.2.2.2.2.1.1, U z86.2.2.2.2.2.1.2.1, I z86.2.2.2.2.2.1.2.2.1, I z86.2.2.2.2.2.1.2.2.2.1, I z86.2.2.2.2.2.1.2.2.2.2, U z86.2.2.2.2.2.2.1.1, U z86.2.2.2.2.2.2.1.2.1, I z86.2.2.2.2.2.2.1.2.2.1, I z86.2.2.2.2.2.2.1.2.2.2.1, I z86.2.2.2.2.2.2.1.2.2.2.2, U z86.2.2.2.2.2.2.2.1.1, U z86.2.2.2.2.2.2.2.1.2.1, I z86.2.2.2.2.2.2.2.1.2.2.1, I z86.2.2.2.2.2.2.2.1.2.2.2.1, I z86.2.2.2.2.2.2.2.1.2.2.2.2, U z86.2.2.2.2.2.2.2.2.1.1, U z86.2.2.2.2.2.2.2.2.1.2.1, I z86.2.2.2.2.2.2.2.2.1.2.2.1, I z86.2.2.2.2.2.2.2.2.1.2.2.2.1, I z86.2.2.2.2.2.2.2.2.1.2.2.2.2, U z86.2.2.2.2.2.2.2.2.2.1, U z86.2.2.2.2.2.2.2.2.2.2.1, I z86.2.2.2.2.2.2.2.2.2.2.2.1, I z86.2.2.2.2.2.2.2.2.2.2.2.2.1, I z86.2.2.2.2.2.2.2.2.2.2.2.2.2, v85, I x88, v75, v78, v81] :: Bx b5 45 [.slice none 0 0, I 0, .slice none 0 0, .slice none 0 0, .slice none 0 0] :: L) a w) ?_ ?_
          · obtain ⟨⟨rq74_8_1, rq74_8_2⟩, hcq74_8_3, hj89⟩ := bind_some hj89
            obtain ⟨yq74_10_1, hkq74_10_2, hj89⟩ := bind_some hj89
            refine TC.region_any (Bx b73 106 [I x71.1, I x71.2.1, I x71.2.2.1, I x71.2.2.2] :: Bx b5 45 [.slice none 0 0, I 0, .slice none 0 0, .slice none 0 0, .slice none 0 0] :: L) 14 15 kfollows_mixedOrders_true rfl ?_
            refine TA.takeW 0 rfl rfl rfl rfl (StepS.move rfl) (by kernel_rfl) (by kernel_rfl) (by kernel_rfl) rfl (.inr (fun _ s => by replace s := Sat.front 6 rfl s; replace s := Sat.front 1 rfl s; replace s := Sat.erase 2 s; replace s := Sat.erase 2 s; replace s := Sat.erase 2 s; replace s := Sat.erase 2 s; replace s := Sat.erase 2 s; exact s)) ?_
            refine TA.takeW 1 rfl rfl rfl rfl (StepS.move rfl) (by kernel_rfl) (by kernel_rfl) (by kernel_rfl) rfl (.inr (fun _ s => by replace s := Sat.front 6 rfl s; replace s := Sat.front 1 rfl s; replace s := Sat.erase 2 s; replace s := Sat.erase 2 s; replace s := Sat.erase 2 s; replace s := Sat.erase 2 s; replace s := Sat.erase 2 s; exact s)) ?_
            refine TA.takeW 2 rfl rfl rfl rfl (StepS.nilc rfl) (by kernel_rfl) (by kernel_rfl) (by kernel_rfl) rfl (.inr (fun _ s => by replace s := Sat.front 6 rfl s; replace s := Sat.front 1 rfl s; replace s := Sat.erase 2 s; replace s := Sat.erase 2 s; replace s := Sat.erase 2 s; replace s := Sat.erase 2 s; replace s := Sat.erase 2 s; exact s)) ?_
            refine TA.takeW 3 rfl rfl rfl rfl (StepS.fld rfl kfieldB_126_2_51_true) (by kernel_rfl) (by kernel_rfl) (by kernel_rfl) rfl (.inr (fun _ s => by replace s := Sat.front 6 rfl s; replace s := Sat.front 1 rfl s; replace s := Sat.erase 2 s; replace s := Sat.erase 2 s; replace s := Sat.erase 2 s; replace s := Sat.erase 2 s; replace s := Sat.erase 2 s; exact s)) ?_
            refine TA.takeW 4 rfl rfl rfl rfl (StepS.fld rfl kfieldB_45_0_0_true) (by kernel_rfl) (by kernel_rfl) (by kernel_rfl) rfl (.inr (fun _ s => by replace s := Sat.front 6 rfl s; replace s := Sat.front 1 rfl s; replace s := Sat.erase 2 s; replace s := Sat.erase 2 s; replace s := Sat.erase 2 s; replace s := Sat.erase 2 s; replace s := Sat.erase 2 s; exact s)) ?_
            refine TA.takeW 6 rfl rfl rfl rfl (StepS.move rfl) (by kernel_rfl) (by kernel_rfl) (by kernel_rfl) rfl (.inr (fun _ s => by replace s := Sat.front 6 rfl s; replace s := Sat.front 1 rfl s; replace s := Sat.erase 2 s; replace s := Sat.erase 2 s; replace s := Sat.erase 2 s; replace s := Sat.erase 2 s; replace s := Sat.erase 2 s; exact s)) ?_
            refine TA.take 7 rfl rfl rfl rfl (StepS.ldBA rfl (Ent.at 0 rfl) kaggB_106_4_true rfl rfl) (by kernel_rfl) (by kernel_rfl) (by kernel_rfl) (by kernel_rfl) (by kernel_rfl) (fun _ s => by replace s := Sat.front 6 rfl s; replace s := Sat.front 1 rfl s; replace s := Sat.erase 2 s; replace s := Sat.erase 2 s; replace s := Sat.erase 2 s; replace s := Sat.erase 2 s; replace s := Sat.erase 2 s; exact s) ?_
            refine TA.all2 (i := 5) (j := 8) (by kernel_rfl) ?_ ?_
            · refine TB.of rfl ?_
              refine TO.s rfl rfl rfl (StepS.ldB rfl (Ent.at 5 rfl) kscalB_24_true rfl) ?_
              refine TA.back (.inr (fun _ s => by replace s := Sat.front 6 rfl s; replace s := Sat.front 1 rfl s; replace s := Sat.erase 2 s; replace s := Sat.erase 2 s; replace s := Sat.erase 2 s; replace s := Sat.erase 2 s; replace s := Sat.erase 2 s; exact s)) ?_
              refine TA.all1 (i := 8) (by kernel_rfl) ?_
              refine TB.of rfl ?_
              refine TO.ghost (fun _ s => Sat.front 4 rfl s) ?_
              refine TO.ghost (fun _ s => Sat.front 4 rfl s) ?_
              refine TO.ghost (fun _ s => Sat.front 4 rfl s) ?_
              refine TO.ghost (fun _ s => Sat.front 5 rfl s) ?_
              refine TO.callO kcallB_58_true rfl rfl rfl (fun _ st => C58 (a0 := (x33, z32, (x34, y25, y28, y31)))  hcq74_8_3 st) ?_
              rintro _ _ ⟨vq74_8_4, vq74_8_6, vq74_8_8, rfl, rfl⟩
              refine TA.back (.inr (fun _ s => by replace s := Sat.front 6 rfl s; replace s := Sat.front 5 rfl s; replace s := Sat.erase 2 s; replace s := Sat.erase 2 s; replace s := Sat.erase 2 s; replace s := Sat.erase 2 s; replace s := Sat.erase 2 s; exact s)) ?_
              refine TA.all1 (i := 9) (by kernel_rfl) ?_
              refine TB.of rfl ?_
              refine TO.litS (f := cI) ([rq74_8_1] : List Int) kelemB_24_28_1_8_true kinfo_28_bind_zero_some_I_0 rfl rfl (fun _ => rfl) rfl rfl (by kernel_rfl) rfl fun vq74_9_1 => ?_
              refine TA.back (.inr (fun _ s => by replace s := Sat.front 7 rfl s; replace s := Sat.front 6 rfl s; replace s := Sat.erase 2 s; replace s := Sat.erase 2 s; replace s := Sat.erase 2 s; replace s := Sat.erase 2 s; replace s := Sat.erase 2 s; replace s := Sat.erase 2 s; exact s)) ?_
              refine TA.all1 (i := 10) (by kernel_rfl) ?_
              refine TB.of rfl ?_
              refine TO.app (k := 6) (f := cI) kelemB_24_28_1_8_true (by decide) rfl rfl rfl (OwnS.rd (Ent.at 0 rfl)) hkq74_10_2 (fun x c hc => by simp [Value.oneCell'] at hc ⊢; first | (obtain rfl := hc; rfl) | (rcases hc with rfl <;> rfl)) rfl rfl fun vq74_10_3 => ?_
              refine TA.back (.inr (fun _ s => by replace s := Sat.front 7 rfl s; replace s := Sat.front 6 rfl s; replace s := Sat.erase 2 s; replace s := Sat.erase 2 s; replace s := Sat.erase 2 s; replace s := Sat.erase 2 s; replace s := Sat.erase 2 s; replace s := Sat.erase 2 s; exact s)) ?_
              refine TA.takeW 11 rfl rfl rfl rfl (StepS.nilc rfl) (by kernel_rfl) (by kernel_rfl) (by kernel_rfl) rfl (.inr (fun _ s => by replace s := Sat.front 7 rfl s; replace s := Sat.front 6 rfl s; replace s := Sat.erase 2 s; replace s := Sat.erase 2 s; replace s := Sat.erase 2 s; replace s := Sat.erase 2 s; replace s := Sat.erase 2 s; replace s := Sat.erase 2 s; exact s)) ?_
              refine TA.takeW 12 rfl rfl rfl rfl (StepS.fld rfl kfieldB_126_2_51_true) (by kernel_rfl) (by kernel_rfl) (by kernel_rfl) rfl (.inr (fun _ s => by replace s := Sat.front 7 rfl s; replace s := Sat.front 6 rfl s; replace s := Sat.erase 2 s; replace s := Sat.erase 2 s; replace s := Sat.erase 2 s; replace s := Sat.erase 2 s; replace s := Sat.erase 2 s; replace s := Sat.erase 2 s; exact s)) ?_
              refine TA.takeW 13 rfl rfl rfl rfl (StepS.fld rfl kfieldB_45_0_0_true) (by kernel_rfl) (by kernel_rfl) (by kernel_rfl) rfl (.inr (fun _ s => by replace s := Sat.front 7 rfl s; replace s := Sat.front 6 rfl s; replace s := Sat.erase 2 s; replace s := Sat.erase 2 s; replace s := Sat.erase 2 s; replace s := Sat.erase 2 s; replace s := Sat.erase 2 s; replace s := Sat.erase 2 s; exact s)) ?_
              refine TA.all1 (i := 14) (by kernel_rfl) ?_
              refine TB.of rfl ?_
              refine TO.pure (fun _ s => Rd.one (OwnS.rd (Ent.at 6 rfl)) s) fun ocq74_14_1 => ?_
              refine TO.stB (us := [vq74_10_3]) 1 [I rq74_8_2.1, U rq74_8_2.2.1.1.1, U rq74_8_2.2.1.1.2.1, I rq74_8_2.2.1.1.2.2.1, I rq74_8_2.2.1.1.2.2.2.1, I rq74_8_2.2.1.1.2.2.2.2, U rq74_8_2.2.1.2.1.1, U rq74_8_2.2.1.2.1.2.1, I rq74_8_2.2.1.2.1.2.2.1, I rq74_8_2.2.1.2.1.2.2.2.1, I rq74_8_2.2.1.2.1.2.2.2.2, U rq74_8_2.2.1.2.2.1.1, U rq74_8_2.2.1.2.2.1.2.1, I rq74_8_2.2.1.2.2.1.2.2.1, I rq74_8_2.2.1.2.2.1.2.2.2.1, I rq74_8_2.2.1.2.2.1.2.2.2.2, U rq74_8_2.2.1.2.2.2.1.1, U rq74_8_2.2.1.2.2.2.1.2.1, I rq74_8_2.2.1.2.2.2.1.2.2.1, I rq74_8_2.2.1.2.2.2.1.2.2.2.1, I rq74_8_2.2.1.2.2.2.1.2.2.2.2, U rq74_8_2.2.1.2.2.2.2.1.1, U rq74_8_2.2.1.2.2.2.2.1.2.1, I rq74_8_2.2.1.2.2.2.2.1.2.2.1, I rq74_8_2.2.1.2.2.2.2.1.2.2.2.1, I rq74_8_2.2.1.2.2.2.2.1.2.2.2.2, U rq74_8_2.2.1.2.2.2.2.2.1.1, U rq74_8_2.2.1.2.2.2.2.2.1.2.1, I rq74_8_2.2.1.2.2.2.2.2.1.2.2.1, I rq74_8_2.2.1.2.2.2.2.2.1.2.2.2.1, I rq74_8_2.2.1.2.2.2.2.2.1.2.2.2.2, U rq74_8_2.2.1.2.2.2.2.2.2.1.1, U rq74_8_2.2.1.2.2.2.2.2.2.1.2.1, I rq74_8_2.2.1.2.2.2.2.2.2.1.2.2.1, I rq74_8_2.2.1.2.2.2.2.2.2.1.2.2.2.1, I rq74_8_2.2.1.2.2.2.2.2.2.1.2.2.2.2, U rq74_8_2.2.1.2.2.2.2.2.2.2.1.1, U rq74_8_2.2.1.2.2.2.2.2.2.2.1.2.1, I rq74_8_2.2.1.2.2.2.2.2.2.2.1.2.2.1, I rq74_8_2.2.1.2.2.2.2.2.2.2.1.2.2.2.1, I rq74_8_2.2.1.2.2.2.2.2.2.2.1.2.2.2.2, U rq74_8_2.2.1.2.2.2.2.2.2.2.2.1.1, U rq74_8_2.2.1.2.2.2.2.2.2.2.2.1.2.1, I rq74_8_2.2.1.2.2.2.2.2.2.2.2.1.2.2.1, I rq74_8_2.2.1.2.2.2.2.2.2.2.2.1.2.2.2.1, I rq74_8_2.2.1.2.2.2.2.2.2.2.2.1.2.2.2.2, U rq74_8_2.2.1.2.2.2.2.2.2.2.2.2.1, U rq74_8_2.2.1.2.2.2.2.2.2.2.2.2.2.1, I rq74_8_2.2.1.2.2.2.2.2.2.2.2.2.2.2.1, I rq74_8_2.2.1.2.2.2.2.2.2.2.2.2.2.2.2.1, I rq74_8_2.2.1.2.2.2.2.2.2.2.2.2.2.2.2.2, vq74_10_3, I rq74_8_2.2.2.1, vq74_8_4, vq74_8_6, vq74_8_8] rfl rfl rfl ksizeB_24_1_true ocq74_14_1.2 rfl rfl (by intro u hu; simp only [List.mem_cons, List.not_mem_nil, or_false] at hu; rcases hu with rfl <;> first | exact ocq74_14_1.1 | rfl) rfl ?_
              refine TA.back (.inl (by kernel_rfl)) ?_
              cases hj89
              refine TA.nil (by kernel_rfl) fun a w e s => ?_
              exact ⟨vq74_8_4, vq74_8_6, vq74_8_8, vq74_10_3, e.sub (lk_of_allIn ⟨rfl, rfl, rfl, rfl, rfl, trivial⟩), s.mono fun _ s => (by replace s := Sat.front 7 rfl s; replace s := Sat.front 2 rfl s; replace s := Sat.front 7 rfl s; replace s := Sat.front 7 rfl s; replace s := Sat.front 7 rfl s; replace s := Sat.front 7 rfl s; replace s := Sat.front 7 rfl s; replace s := Sat.erase 7 s; exact s)⟩
            · refine TB.of rfl ?_
              refine TO.ghost (fun _ s => Sat.front 4 rfl s) ?_
              refine TO.ghost (fun _ s => Sat.front 4 rfl s) ?_
              refine TO.ghost (fun _ s => Sat.front 4 rfl s) ?_
              refine TO.ghost (fun _ s => Sat.front 5 rfl s) ?_
              refine TO.callO kcallB_58_true rfl rfl rfl (fun _ st => C58 (a0 := (x33, z32, (x34, y25, y28, y31)))  hcq74_8_3 st) ?_
              rintro _ _ ⟨vq74_8_4, vq74_8_6, vq74_8_8, rfl, rfl⟩
              refine TA.back (.inr (fun _ s => by replace s := Sat.front 6 rfl s; replace s := Sat.front 5 rfl s; replace s := Sat.erase 2 s; replace s := Sat.erase 2 s; replace s := Sat.erase 2 s; replace s := Sat.erase 2 s; replace s := Sat.erase 2 s; exact s)) ?_
              refine TA.all2 (i := 5) (j := 9) (by kernel_rfl) ?_ ?_
              · refine TB.of rfl ?_
                refine TO.s rfl rfl rfl (StepS.ldB rfl (Ent.at 0 rfl) kscalB_24_true rfl) ?_
                refine TA.back (.inr (fun _ s => by replace s := Sat.front 6 rfl s; replace s := Sat.front 5 rfl s; replace s := Sat.erase 2 s; replace s := Sat.erase 2 s; replace s := Sat.erase 2 s; replace s := Sat.erase 2 s; replace s := Sat.erase 2 s; exact s)) ?_
                refine TA.all1 (i := 9) (by kernel_rfl) ?_
                refine TB.of rfl ?_
                refine TO.litS (f := cI) ([rq74_8_1] : List Int) kelemB_24_28_1_8_true kinfo_28_bind_zero_some_I_0 rfl rfl (fun _ => rfl) rfl rfl (by kernel_rfl) rfl fun vq74_9_1 => ?_
                refine TA.back (.inr (fun _ s => by replace s := Sat.front 7 rfl s; replace s := Sat.front 6 rfl s; replace s := Sat.erase 2 s; replace s := Sat.erase 2 s; replace s := Sat.erase 2 s; replace s := Sat.erase 2 s; replace s := Sat.erase 2 s; replace s := Sat.erase 2 s; exact s)) ?_
                refine TA.all1 (i := 10) (by kernel_rfl) ?_
                refine TB.of rfl ?_
                refine TO.app (k := 6) (f := cI) kelemB_24_28_1_8_true (by decide) rfl rfl rfl (OwnS.rd (Ent.at 0 rfl)) hkq74_10_2 (fun x c hc => by simp [Value.oneCell'] at hc ⊢; first | (obtain rfl := hc; rfl) | (rcases hc with rfl <;> rfl)) rfl rfl fun vq74_10_3 => ?_
                refine TA.back (.inr (fun _ s => by replace s := Sat.front 7 rfl s; replace s := Sat.front 6 rfl s; replace s := Sat.erase 2 s; replace s := Sat.erase 2 s; replace s := Sat.erase 2 s; replace s := Sat.erase 2 s; replace s := Sat.erase 2 s; replace s := Sat.erase 2 s; exact s)) ?_
                refine TA.takeW 11 rfl rfl rfl rfl (StepS.nilc rfl) (by kernel_rfl) (by kernel_rfl) (by kernel_rfl) rfl (.inr (fun _ s => by replace s := Sat.front 7 rfl s; replace s := Sat.front 6 rfl s; replace s := Sat.erase 2 s; replace s := Sat.erase 2 s; replace s := Sat.erase 2 s; replace s := Sat.erase 2 s; replace s := Sat.erase 2 s; replace s := Sat.erase 2 s; exact s)) ?_
                refine TA.takeW 12 rfl rfl rfl rfl (StepS.fld rfl kfieldB_126_2_51_true) (by kernel_rfl) (by kernel_rfl) (by kernel_rfl) rfl (.inr (fun _ s => by replace s := Sat.front 7 rfl s; replace s := Sat.front 6 rfl s; replace s := Sat.erase 2 s; replace s := Sat.erase 2 s; replace s := Sat.erase 2 s; replace s := Sat.erase 2 s; replace s := Sat.erase 2 s; replace s := Sat.erase 2 s; exact s)) ?_
                refine TA.takeW 13 rfl rfl rfl rfl (StepS.fld rfl kfieldB_45_0_0_true) (by kernel_rfl) (by kernel_rfl) (by kernel_rfl) rfl (.inr (fun _ s => by replace s := Sat.front 7 rfl s; replace s := Sat.front 6 rfl s; replace s := Sat.erase 2 s; replace s := Sat.erase 2 s; replace s := Sat.erase 2 s; replace s := Sat.erase 2 s; replace s := Sat.erase 2 s; replace s := Sat.erase 2 s; exact s)) ?_
                refine TA.all1 (i := 14) (by kernel_rfl) ?_
                refine TB.of rfl ?_
                refine TO.pure (fun _ s => Rd.one (OwnS.rd (Ent.at 6 rfl)) s) fun ocq74_14_1 => ?_
                refine TO.stB (us := [vq74_10_3]) 1 [I rq74_8_2.1, U rq74_8_2.2.1.1.1, U rq74_8_2.2.1.1.2.1, I rq74_8_2.2.1.1.2.2.1, I rq74_8_2.2.1.1.2.2.2.1, I rq74_8_2.2.1.1.2.2.2.2, U rq74_8_2.2.1.2.1.1, U rq74_8_2.2.1.2.1.2.1, I rq74_8_2.2.1.2.1.2.2.1, I rq74_8_2.2.1.2.1.2.2.2.1, I rq74_8_2.2.1.2.1.2.2.2.2, U rq74_8_2.2.1.2.2.1.1, U rq74_8_2.2.1.2.2.1.2.1, I rq74_8_2.2.1.2.2.1.2.2.1, I rq74_8_2.2.1.2.2.1.2.2.2.1, I rq74_8_2.2.1.2.2.1.2.2.2.2, U rq74_8_2.2.1.2.2.2.1.1, U rq74_8_2.2.1.2.2.2.1.2.1, I rq74_8_2.2.1.2.2.2.1.2.2.1, I rq74_8_2.2.1.2.2.2.1.2.2.2.1, I rq74_8_2.2.1.2.2.2.1.2.2.2.2, U rq74_8_2.2.1.2.2.2.2.1.1, U rq74_8_2.2.1.2.2.2.2.1.2.1, I rq74_8_2.2.1.2.2.2.2.1.2.2.1, I rq74_8_2.2.1.2.2.2.2.1.2.2.2.1, I rq74_8_2.2.1.2.2.2.2.1.2.2.2.2, U rq74_8_2.2.1.2.2.2.2.2.1.1, U rq74_8_2.2.1.2.2.2.2.2.1.2.1, I rq74_8_2.2.1.2.2.2.2.2.1.2.2.1, I rq74_8_2.2.1.2.2.2.2.2.1.2.2.2.1, I rq74_8_2.2.1.2.2.2.2.2.1.2.2.2.2, U rq74_8_2.2.1.2.2.2.2.2.2.1.1, U rq74_8_2.2.1.2.2.2.2.2.2.1.2.1, I rq74_8_2.2.1.2.2.2.2.2.2.1.2.2.1, I rq74_8_2.2.1.2.2.2.2.2.2.1.2.2.2.1, I rq74_8_2.2.1.2.2.2.2.2.2.1.2.2.2.2, U rq74_8_2.2.1.2.2.2.2.2.2.2.1.1, U rq74_8_2.2.1.2.2.2.2.2.2.2.1.2.1, I rq74_8_2.2.1.2.2.2.2.2.2.2.1.2.2.1, I rq74_8_2.2.1.2.2.2.2.2.2.2.1.2.2.2.1, I rq74_8_2.2.1.2.2.2.2.2.2.2.1.2.2.2.2, U rq74_8_2.2.1.2.2.2.2.2.2.2.2.1.1, U rq74_8_2.2.1.2.2.2.2.2.2.2.2.1.2.1, I rq74_8_2.2.1.2.2.2.2.2.2.2.2.1.2.2.1, I rq74_8_2.2.1.2.2.2.2.2.2.2.2.1.2.2.2.1, I rq74_8_2.2.1.2.2.2.2.2.2.2.2.1.2.2.2.2, U rq74_8_2.2.1.2.2.2.2.2.2.2.2.2.1, U rq74_8_2.2.1.2.2.2.2.2.2.2.2.2.2.1, I rq74_8_2.2.1.2.2.2.2.2.2.2.2.2.2.2.1, I rq74_8_2.2.1.2.2.2.2.2.2.2.2.2.2.2.2.1, I rq74_8_2.2.1.2.2.2.2.2.2.2.2.2.2.2.2.2, vq74_10_3, I rq74_8_2.2.2.1, vq74_8_4, vq74_8_6, vq74_8_8] rfl rfl rfl ksizeB_24_1_true ocq74_14_1.2 rfl rfl (by intro u hu; simp only [List.mem_cons, List.not_mem_nil, or_false] at hu; rcases hu with rfl <;> first | exact ocq74_14_1.1 | rfl) rfl ?_
                refine TA.back (.inl (by kernel_rfl)) ?_
                cases hj89
                refine TA.nil (by kernel_rfl) fun a w e s => ?_
                exact ⟨vq74_8_4, vq74_8_6, vq74_8_8, vq74_10_3, e.sub (lk_of_allIn ⟨rfl, rfl, rfl, rfl, rfl, trivial⟩), s.mono fun _ s => (by replace s := Sat.front 7 rfl s; replace s := Sat.front 2 rfl s; replace s := Sat.front 7 rfl s; replace s := Sat.front 7 rfl s; replace s := Sat.front 7 rfl s; replace s := Sat.front 7 rfl s; replace s := Sat.front 7 rfl s; replace s := Sat.erase 7 s; exact s)⟩
              · refine TB.of rfl ?_
                refine TO.litS (f := cI) ([rq74_8_1] : List Int) kelemB_24_28_1_8_true kinfo_28_bind_zero_some_I_0 rfl rfl (fun _ => rfl) rfl rfl (by kernel_rfl) rfl fun vq74_9_1 => ?_
                refine TA.back (.inr (fun _ s => by replace s := Sat.front 7 rfl s; replace s := Sat.front 6 rfl s; replace s := Sat.erase 2 s; replace s := Sat.erase 2 s; replace s := Sat.erase 2 s; replace s := Sat.erase 2 s; replace s := Sat.erase 2 s; replace s := Sat.erase 2 s; exact s)) ?_
                refine TA.all1 (i := 5) (by kernel_rfl) ?_
                refine TB.of rfl ?_
                refine TO.s rfl rfl rfl (StepS.ldB rfl (Ent.at 1 rfl) kscalB_24_true rfl) ?_
                refine TA.back (.inr (fun _ s => by replace s := Sat.front 7 rfl s; replace s := Sat.front 6 rfl s; replace s := Sat.erase 2 s; replace s := Sat.erase 2 s; replace s := Sat.erase 2 s; replace s := Sat.erase 2 s; replace s := Sat.erase 2 s; replace s := Sat.erase 2 s; exact s)) ?_
                refine TA.all1 (i := 10) (by kernel_rfl) ?_
                refine TB.of rfl ?_
                refine TO.app (k := 6) (f := cI) kelemB_24_28_1_8_true (by decide) rfl rfl rfl (OwnS.rd (Ent.at 0 rfl)) hkq74_10_2 (fun x c hc => by simp [Value.oneCell'] at hc ⊢; first | (obtain rfl := hc; rfl) | (rcases hc with rfl <;> rfl)) rfl rfl fun vq74_10_3 => ?_
                refine TA.back (.inr (fun _ s => by replace s := Sat.front 7 rfl s; replace s := Sat.front 6 rfl s; replace s := Sat.erase 2 s; replace s := Sat.erase 2 s; replace s := Sat.erase 2 s; replace s := Sat.erase 2 s; replace s := Sat.erase 2 s; replace s := Sat.erase 2 s; exact s)) ?_
                refine TA.takeW 11 rfl rfl rfl rfl (StepS.nilc rfl) (by kernel_rfl) (by kernel_rfl) (by kernel_rfl) rfl (.inr (fun _ s => by replace s := Sat.front 7 rfl s; replace s := Sat.front 6 rfl s; replace s := Sat.erase 2 s; replace s := Sat.erase 2 s; replace s := Sat.erase 2 s; replace s := Sat.erase 2 s; replace s := Sat.erase 2 s; replace s := Sat.erase 2 s; exact s)) ?_
                refine TA.takeW 12 rfl rfl rfl rfl (StepS.fld rfl kfieldB_126_2_51_true) (by kernel_rfl) (by kernel_rfl) (by kernel_rfl) rfl (.inr (fun _ s => by replace s := Sat.front 7 rfl s; replace s := Sat.front 6 rfl s; replace s := Sat.erase 2 s; replace s := Sat.erase 2 s; replace s := Sat.erase 2 s; replace s := Sat.erase 2 s; replace s := Sat.erase 2 s; replace s := Sat.erase 2 s; exact s)) ?_
                refine TA.takeW 13 rfl rfl rfl rfl (StepS.fld rfl kfieldB_45_0_0_true) (by kernel_rfl) (by kernel_rfl) (by kernel_rfl) rfl (.inr (fun _ s => by replace s := Sat.front 7 rfl s; replace s := Sat.front 6 rfl s; replace s := Sat.erase 2 s; replace s := Sat.erase 2 s; replace s := Sat.erase 2 s; replace s := Sat.erase 2 s; replace s := Sat.erase 2 s; replace s := Sat.erase 2 s; exact s)) ?_
                refine TA.all1 (i := 14) (by kernel_rfl) ?_
                refine TB.of rfl ?_
                refine TO.pure (fun _ s => Rd.one (OwnS.rd (Ent.at 6 rfl)) s) fun ocq74_14_1 => ?_
                refine TO.stB (us := [vq74_10_3]) 1 [I rq74_8_2.1, U rq74_8_2.2.1.1.1, U rq74_8_2.2.1.1.2.1, I rq74_8_2.2.1.1.2.2.1, I rq74_8_2.2.1.1.2.2.2.1, I rq74_8_2.2.1.1.2.2.2.2, U rq74_8_2.2.1.2.1.1, U rq74_8_2.2.1.2.1.2.1, I rq74_8_2.2.1.2.1.2.2.1, I rq74_8_2.2.1.2.1.2.2.2.1, I rq74_8_2.2.1.2.1.2.2.2.2, U rq74_8_2.2.1.2.2.1.1, U rq74_8_2.2.1.2.2.1.2.1, I rq74_8_2.2.1.2.2.1.2.2.1, I rq74_8_2.2.1.2.2.1.2.2.2.1, I rq74_8_2.2.1.2.2.1.2.2.2.2, U rq74_8_2.2.1.2.2.2.1.1, U rq74_8_2.2.1.2.2.2.1.2.1, I rq74_8_2.2.1.2.2.2.1.2.2.1, I rq74_8_2.2.1.2.2.2.1.2.2.2.1, I rq74_8_2.2.1.2.2.2.1.2.2.2.2, U rq74_8_2.2.1.2.2.2.2.1.1, U rq74_8_2.2.1.2.2.2.2.1.2.1, I rq74_8_2.2.1.2.2.2.2.1.2.2.1, I rq74_8_2.2.1.2.2.2.2.1.2.2.2.1, I rq74_8_2.2.1.2.2.2.2.1.2.2.2.2, U rq74_8_2.2.1.2.2.2.2.2.1.1, U rq74_8_2.2.1.2.2.2.2.2.1.2.1, I rq74_8_2.2.1.2.2.2.2.2.1.2.2.1, I rq74_8_2.2.1.2.2.2.2.2.1.2.2.2.1, I rq74_8_2.2.1.2.2.2.2.2.1.2.2.2.2, U rq74_8_2.2.1.2.2.2.2.2.2.1.1, U rq74_8_2.2.1.2.2.2.2.2.2.1.2.1, I rq74_8_2.2.1.2.2.2.2.2.2.1.2.2.1, I rq74_8_2.2.1.2.2.2.2.2.2.1.2.2.2.1, I rq74_8_2.2.1.2.2.2.2.2.2.1.2.2.2.2, U rq74_8_2.2.1.2.2.2.2.2.2.2.1.1, U rq74_8_2.2.1.2.2.2.2.2.2.2.1.2.1, I rq74_8_2.2.1.2.2.2.2.2.2.2.1.2.2.1, I rq74_8_2.2.1.2.2.2.2.2.2.2.1.2.2.2.1, I rq74_8_2.2.1.2.2.2.2.2.2.2.1.2.2.2.2, U rq74_8_2.2.1.2.2.2.2.2.2.2.2.1.1, U rq74_8_2.2.1.2.2.2.2.2.2.2.2.1.2.1, I rq74_8_2.2.1.2.2.2.2.2.2.2.2.1.2.2.1, I rq74_8_2.2.1.2.2.2.2.2.2.2.2.1.2.2.2.1, I rq74_8_2.2.1.2.2.2.2.2.2.2.2.1.2.2.2.2, U rq74_8_2.2.1.2.2.2.2.2.2.2.2.2.1, U rq74_8_2.2.1.2.2.2.2.2.2.2.2.2.2.1, I rq74_8_2.2.1.2.2.2.2.2.2.2.2.2.2.2.1, I rq74_8_2.2.1.2.2.2.2.2.2.2.2.2.2.2.2.1, I rq74_8_2.2.1.2.2.2.2.2.2.2.2.2.2.2.2.2, vq74_10_3, I rq74_8_2.2.2.1, vq74_8_4, vq74_8_6, vq74_8_8] rfl rfl rfl ksizeB_24_1_true ocq74_14_1.2 rfl rfl (by intro u hu; simp only [List.mem_cons, List.not_mem_nil, or_false] at hu; rcases hu with rfl <;> first | exact ocq74_14_1.1 | rfl) rfl ?_
                refine TA.back (.inl (by kernel_rfl)) ?_
                cases hj89
                refine TA.nil (by kernel_rfl) fun a w e s => ?_
                exact ⟨vq74_8_4, vq74_8_6, vq74_8_8, vq74_10_3, e.sub (lk_of_allIn ⟨rfl, rfl, rfl, rfl, rfl, trivial⟩), s.mono fun _ s => (by replace s := Sat.front 7 rfl s; replace s := Sat.front 2 rfl s; replace s := Sat.front 7 rfl s; replace s := Sat.front 7 rfl s; replace s := Sat.front 7 rfl s; replace s := Sat.front 7 rfl s; replace s := Sat.front 7 rfl s; replace s := Sat.erase 7 s; exact s)⟩
          · intro a w ⟨v75, v78, v81, v85, he, hs⟩
            refine TC.use ?_ he hs
            refine TC.region ?_
            refine TO.s rfl rfl rfl (StepS.ari rfl rfl rfl) ?_
            refine TO.s rfl rfl rfl (StepS.move rfl) ?_
            cases hb69
            refine TO.nil fun a w e s => ?_
            exact ⟨v85, v75, v78, v81, e.sub (lk_of_allIn ⟨rfl, rfl, rfl, rfl, rfl, trivial⟩), s.mono fun _ s => (by replace s := Sat.front 6 rfl s; replace s := Sat.front 6 rfl s; replace s := Sat.front 4 rfl s; replace s := Sat.front 4 rfl s; replace s := Sat.front 4 rfl s; replace s := Sat.front 6 rfl s; replace s := Sat.erase 6 s; exact s)⟩
        · replace hb69 := cond_f hc70 hb69
          cases hb69
          refine TC.exit rfl fun a w e s => ?_
          exact ⟨v20, v23, v26, v29, e.sub (lk_of_allIn ⟨rfl, rfl, trivial⟩), s⟩
      · exact fun a w e s => ⟨.slice none 0 0, v10, v13, v16, e.sub (lk_of_allIn ⟨rfl, rfl, rfl, rfl, rfl, trivial⟩), s.mono fun _ s => (by replace s := Sat.front 4 rfl s; replace s := Sat.front 4 rfl s; replace s := Sat.front 4 rfl s; replace s := Sat.front 4 rfl s; replace s := Sat.front 4 rfl s; replace s := Sat.nilS (e := 28) (sz := 1) (f := cI) s; exact s)⟩
      · rintro ⟨y54, y57, y60, y63, z64, x65, x66⟩ rfl a w ⟨v52, v55, v58, v61, he, hs⟩
        dsimp only [Ctl.on] at hm
        refine TC.use ?_ he hs
        refine TC.k ?_
        refine TC.region ?_
        refine TO.s rfl rfl rfl (StepS.move rfl) ?_
        refine TO.s rfl rfl rfl (StepS.nilc rfl) ?_
        refine TO.s rfl rfl rfl (StepS.fld rfl kfieldB_126_2_51_true) ?_
        refine TO.s rfl rfl rfl (StepS.ldBA rfl (Ent.at 4 rfl) kaggB_45_5_true rfl rfl) ?_
        refine TO.pure (fun _ s => Rd.one (OwnS.rd (Ent.at 0 rfl)) s) fun oc90 => ?_
        refine TO.pure (fun _ s => Rd.one (OwnS.rd (Ent.at 1 rfl)) s) fun oc91 => ?_
        refine TO.pure (fun _ s => Rd.one (OwnS.rd (Ent.at 2 rfl)) s) fun oc92 => ?_
        refine TO.pure (fun _ s => Rd.one (OwnS.rd (Ent.at 3 rfl)) s) fun oc93 => ?_
        refine TO.stB (us := [v52, I x66, v55, v58, v61]) 5 [v52, I x66, v55, v58, v61] rfl rfl rfl ksizeB_45_5_true rfl rfl rfl (by intro u hu; simp only [List.mem_cons, List.not_mem_nil, or_false] at hu; rcases hu with rfl | rfl | rfl | rfl | rfl <;> first | exact oc90.1 | exact oc91.1 | exact oc92.1 | exact oc93.1 | rfl) rfl ?_
        refine TO.s rfl rfl rfl (StepS.assign rfl) ?_
        refine TO.code ?_
        cases hm
        refine TC.ret fun a w e s => ?_
        refine FRet.cell2 (P := Try.prog) (fn := Try.f23) e s rfl rfl rfl (Ent.at 5 rfl) kaggB_45_5_true rfl ?_
        refine ⟨_, _, rfl, ⟨(v52), (v55), (v58), (v61), rfl, rfl⟩, ?_⟩
        refine s.mono fun _ s => ?_
        replace s := Sat.front 3 rfl s
        replace s := Sat.front 3 rfl s
        replace s := Sat.front 3 rfl s
        replace s := Sat.front 3 rfl s
        replace s := Sat.erase 4 s
        replace s := Sat.erase 4 s
        exact s
      · rintro r rfl
        exact fun a w h => h.elim
end Go.Proofs.Ythfkdepcnhhepaa
