/-
  The walks: each Go function returns what its model says. Written by a program (gen.py).
-/
import Derived.Test.YtadfgohglcglcaaDoorProg
import Derived.KernelRfl
import Derived.Test.YtadfgohglcglcaaDoorSW
import Derived.Test.YtadfgohglcglcaaDoorNW
import Derived.Test.YtadfgohglcglcaaDoorKW
import Derived.Test.YtadfgohglcglcaaDoorWM
namespace Go.Proofs.YtadfgohglcglcaaDoor
open Go Go.Bk
set_option linter.unusedVariables false
set_option linter.unnecessarySimpa false
theorem kkey3B_93_3_9_true : key3B Tryd.prog 93 3 9 = true := by kernel_rfl
theorem kunderlying_93_some_struct_fieldsOf_93 : Tryd.prog.underlying 93 = some (.struct (Tryd.prog.fieldsOf 93)) := by kernel_rfl
theorem kunderlying_3_some_int_i64 : Tryd.prog.underlying 3 = some (.int .i64) := by kernel_rfl
theorem kstoodInHeld_93_false : Tryd.prog.stoodInHeld 93 = false := by kernel_rfl
theorem ksliceB_124_93_3_true : sliceB Tryd.prog 124 93 3 = true := by kernel_rfl
theorem kaggB_93_3_true : aggB Tryd.prog 93 3 = true := by kernel_rfl
theorem kinfo_93_bind_zero_some_agg_I_0_I_0_string_ByteArray_empty : (Tryd.prog.info? 93).bind (·.zero) = some (.agg #[I 0, I 0, .string ByteArray.empty]) := by kernel_rfl
theorem ksizeB_93_3_true : sizeB Tryd.prog 93 3 = true := by kernel_rfl
theorem kfieldB_88_1_1_true : fieldB Tryd.prog 88 1 1 = true := by kernel_rfl
theorem kscalB_86_true : scalB Tryd.prog 86 = true := by kernel_rfl
theorem kmapGB_86_93_4_true : mapGB Tryd.prog 86 93 4 = true := by kernel_rfl
theorem kinfo_4_bind_zero_some_bool_false : (Tryd.prog.info? 4).bind (·.zero) = some (.bool false) := by kernel_rfl
theorem kmapGB_113_3_3_true : mapGB Tryd.prog 113 3 3 = true := by kernel_rfl
theorem kinfo_3_bind_zero_some_I_0 : (Tryd.prog.info? 3).bind (·.zero) = some (I 0) := by kernel_rfl
theorem kfieldB_88_2_2_true : fieldB Tryd.prog 88 2 2 = true := by kernel_rfl
theorem kscalB_60_true : scalB Tryd.prog 60 = true := by kernel_rfl
theorem ksliceB_60_66_1_true : sliceB Tryd.prog 60 66 1 = true := by kernel_rfl
theorem kelemB_124_93_3_32_true : elemB Tryd.prog 124 93 3 32 = true := by kernel_rfl
theorem kcallB_43_true : callB Tryd.prog 43 = true := by kernel_rfl
theorem kscalB_66_true : scalB Tryd.prog 66 = true := by kernel_rfl
theorem kelemB_66_95_2_24_true : elemB Tryd.prog 66 95 2 24 = true := by kernel_rfl
theorem kinfo_95_bind_zero_some_agg_I_0_string_ByteArray_empty : (Tryd.prog.info? 95).bind (·.zero) = some (.agg #[I 0, .string ByteArray.empty]) := by kernel_rfl
theorem ksizeB_66_1_true : sizeB Tryd.prog 66 1 = true := by kernel_rfl
theorem ksliceB_59_90_6_true : sliceB Tryd.prog 59 90 6 = true := by kernel_rfl
theorem kelemB_60_66_1_24_true : elemB Tryd.prog 60 66 1 24 = true := by kernel_rfl
theorem kinfo_66_bind_zero_some_slice_none_0_0 : (Tryd.prog.info? 66).bind (·.zero) = some (.slice none 0 0) := by kernel_rfl
theorem kaggB_90_6_true : aggB Tryd.prog 90 6 = true := by kernel_rfl
theorem kinfo_90_bind_zero_some_agg_I_0_bool_false_I_0_string_ByteArray_empty_string_ByteArray_empty_I_0 : (Tryd.prog.info? 90).bind (·.zero) = some (.agg #[I 0, .bool false, I 0, .string ByteArray.empty, .string ByteArray.empty, I 0]) := by kernel_rfl
theorem ksizeB_90_6_true : sizeB Tryd.prog 90 6 = true := by kernel_rfl
theorem kfieldB_90_0_0_true : fieldB Tryd.prog 90 0 0 = true := by kernel_rfl
theorem kfieldB_88_0_0_true : fieldB Tryd.prog 88 0 0 = true := by kernel_rfl
theorem kscalB_74_true : scalB Tryd.prog 74 = true := by kernel_rfl
theorem kfieldB_90_2_2_true : fieldB Tryd.prog 90 2 2 = true := by kernel_rfl
theorem kcallB_31_true : callB Tryd.prog 31 = true := by kernel_rfl
theorem kfieldB_90_1_1_true : fieldB Tryd.prog 90 1 1 = true := by kernel_rfl
theorem kscalB_4_true : scalB Tryd.prog 4 = true := by kernel_rfl
theorem kelemB_59_90_6_64_true : elemB Tryd.prog 59 90 6 64 = true := by kernel_rfl
theorem ksizeB_95_2_true : sizeB Tryd.prog 95 2 = true := by kernel_rfl
theorem kfieldB_95_0_0_true : fieldB Tryd.prog 95 0 0 = true := by kernel_rfl
theorem kelemB_96_4_1_1_true : elemB Tryd.prog 96 4 1 1 = true := by kernel_rfl
theorem ksliceB_96_4_1_true : sliceB Tryd.prog 96 4 1 = true := by kernel_rfl
theorem kaggB_95_2_true : aggB Tryd.prog 95 2 = true := by kernel_rfl
theorem ksizeB_4_1_true : sizeB Tryd.prog 4 1 = true := by kernel_rfl
theorem ksliceB_66_95_2_true : sliceB Tryd.prog 66 95 2 = true := by kernel_rfl
theorem kunderlying_95_some_struct_fieldsOf_95 : Tryd.prog.underlying 95 = some (.struct (Tryd.prog.fieldsOf 95)) := by kernel_rfl
theorem kstoodInHeld_95_false : Tryd.prog.stoodInHeld 95 = false := by kernel_rfl
theorem keqGuardType_depth_95_false : Tryd.prog.eqGuardType Tryd.prog.depth 95 = false := by kernel_rfl
theorem kcallB_22_true : callB Tryd.prog 22 = true := by kernel_rfl
theorem kcallB_23_true : callB Tryd.prog 23 = true := by kernel_rfl
theorem kcallB_24_true : callB Tryd.prog 24 = true := by kernel_rfl

set_option maxRecDepth 100000 in
theorem C43 {B : World} {L : List HP} {a0 : (Int × Int × ByteArray) → Option Bool} {a1 : List (Int × Int × ByteArray)} {b0_ : Nat} {u0_0 : Value} {u0_2 : Value} {h0_1 : Nat} {h1 : Value} {r0 : Bool} {s0 : (Int × Int × ByteArray) → Option Bool} (e1 : Ent L (Rd 3 h1 (a1.map cTiis))) (hm : F43 a0 a1 = some (r0, s0)) {w : World} (st : St B (Bx b0_ 88 [u0_0, .map (some h0_1), u0_2] :: MF (fun k : Int × Int × ByteArray => .agg #[I k.1, I k.2.1, .string k.2.2]) (fun x : Bool => .bool x) h0_1 (a0) :: L) w) : Calls Tryd.prog 43 #[.pointer (some ⟨b0_, 0, none⟩), h1] w (fun e w' => ∃ v M, e = .returned v ∧ (∃ (qr1 : Nat), v = .bool r0 ∧ M = (Bx b0_ 88 [u0_0, .map (some qr1), u0_2] :: MF (fun k : Int × Int × ByteArray => .agg #[I k.1, I k.2.1, .string k.2.2]) (fun x : Bool => .bool x) qr1 (s0) :: L)) ∧ St B M w') := by
  refine calls_of (N := 30) (L := (Bx b0_ 88 [u0_0, .map (some h0_1), u0_2] :: MF (fun k : Int × Int × ByteArray => .agg #[I k.1, I k.2.1, .string k.2.2]) (fun x : Bool => .bool x) h0_1 (a0) :: L)) (args := [.pointer (some ⟨b0_, 0, none⟩), h1]) Tryd.func43 rfl rfl rfl ?_ st
  dsimp only [F43] at hm
  refine TC.k ?_
  refine TC.region ?_
  refine TO.s rfl rfl rfl (StepS.assign rfl) ?_
  refine TO.code ?_
  refine TC.k ?_
  refine TC.region ?_
  refine TO.s rfl rfl rfl (StepS.assign rfl) ?_
  refine TO.code ?_
  refine TC.k ?_
  refine TC.k ?_
  refine TC.region ?_
  refine TO.s rfl rfl rfl (StepS.move rfl) ?_
  refine TO.s rfl rfl rfl (StepS.lenm rfl e1.tl.tl ksliceB_124_93_3_true rfl) ?_
  refine TO.s rfl rfl rfl (StepS.move rfl) ?_
  refine TO.code ?_
  obtain ⟨o11, hw12, hm⟩ := bind_some hm
  refine TC.loop hw12 (fun (y3, b4, x5) => fun a w => Mid 30 B [(0, .pointer (some ⟨b0_, 0, none⟩)), (5, .bool b4), (8, h1), (9, I (a1.length : Int)), (10, I x5)] (Bx b0_ 88 [u0_0, .map (some h0_1), u0_2] :: MF (fun k : Int × Int × ByteArray => .agg #[I k.1, I k.2.1, .string k.2.2]) (fun x : Bool => .bool x) h0_1 (y3) :: L) a w) (fun (y9, b10) => fun a w => Mid 30 B [(5, .bool b10)] (Bx b0_ 88 [u0_0, .map (some h0_1), u0_2] :: MF (fun k : Int × Int × ByteArray => .agg #[I k.1, I k.2.1, .string k.2.2]) (fun x : Bool => .bool x) h0_1 (y9) :: L) a w) (fun (_ : Unit) _ _ => False) ?_ ?_ ?_ ?_
  · rintro ⟨y3, b4, x5⟩ o11r hb13 a w ⟨he, hs⟩
    dsimp only [F43_L0] at hb13
    refine TC.use ?_ he hs
    refine TC.k ?_
    refine TC.region ?_
    refine TO.s rfl rfl rfl (StepS.cmp rfl rfl rfl) ?_
    refine TO.code ?_
    refine TC.k ?_
    refine TC.cond rfl (fun hc14 => ?_) (fun hc14 => ?_)
    · replace hb13 := cond_t hc14 hb13
      refine TC.skipk ?_
      refine TC.k ?_
      refine TC.block ?_
      refine TC.k ?_
      refine TC.region ?_
      obtain ⟨x15, hx16, hb13⟩ := bind_some hb13
      refine TO.s rfl rfl rfl (StepS.idx rfl rfl e1.tl.tl ksliceB_124_93_3_true (idx_spec hx16).1 (idxm_lt hx16)) ?_
      refine TO.s rfl rfl rfl (StepS.ldE rfl e1.tl.tl kaggB_93_3_true rfl (idxm hx16)) ?_
      refine TO.alloc kinfo_93_bind_zero_some_agg_I_0_I_0_string_ByteArray_empty rfl rfl fun b17 => ?_
      refine TO.stB (us := [I x15.1, I x15.2.1, .string x15.2.2]) 0 [I x15.1, I x15.2.1, .string x15.2.2] rfl rfl rfl ksizeB_93_3_true rfl rfl rfl (by simp [Value.oneCell']) rfl ?_
      refine TO.code ?_
      refine TC.k ?_
      refine TC.region_still kfollows_mixedOrders_true (by kernel_rfl) ?_
      refine TS.s rfl rfl rfl (StepS.move rfl) ?_
      refine TS.s rfl rfl rfl (StepS.move rfl) ?_
      refine TS.mid1 7 22 (.bool (b4 || ((y3 (x15.1, x15.2.1, x15.2.2)).getD false))) ?_ ?_
      · refine bcase (b4) (fun hb18 => ?_) (fun hb18 => ?_)
        · refine TS.skip rfl rfl rfl (skipT hb18) rfl rfl ?_
          refine TS.skip rfl rfl rfl (skipT hb18) rfl rfl ?_
          refine TS.skip rfl rfl rfl (skipT hb18) rfl rfl ?_
          refine TS.skip rfl rfl rfl (skipT hb18) rfl rfl ?_
          refine TS.skip rfl rfl rfl (skipT hb18) rfl rfl ?_
          refine TS.skip rfl rfl rfl (skipT hb18) rfl rfl ?_
          refine TS.s rfl rfl rfl (StepS.pickT rfl hb18 rfl) ?_
          exact TS.up1 7 0 rfl rfl (by rw [hb18]; rfl) rfl
        · refine TS.sw rfl rfl rfl hb18 rfl rfl (StepS.move rfl) ?_
          refine TS.sw rfl rfl rfl hb18 rfl rfl (StepS.nilc rfl) ?_
          refine TS.sw rfl rfl rfl hb18 rfl rfl (StepS.fld rfl kfieldB_88_1_1_true) ?_
          refine TS.sw rfl rfl rfl hb18 rfl rfl (StepS.ldB rfl (Ent.at 1 rfl) kscalB_86_true rfl) ?_
          refine TS.sw rfl rfl rfl hb18 rfl rfl (StepS.ldBA rfl (Ent.at 0 rfl) kaggB_93_3_true rfl rfl) ?_
          refine TS.sw rfl rfl rfl hb18 rfl rfl (StepS.lookF (k := (x15.1, x15.2.1, x15.2.2)) kmapGB_86_93_4_true (KeyOk.key3 kkey3B_93_3_9_true kunderlying_93_some_struct_fieldsOf_93 kunderlying_3_some_int_i64 ksizeB_3_1_true kscalB_3_true kunderlying_9_some_string ksizeB_9_1_true kscalB_9_true kstoodInHeld_93_false) kinfo_4_bind_zero_some_bool_false rfl (Ent.at 2 rfl) rfl (getD_vf (vf := (fun x : Bool => .bool x)) (y3 (x15.1, x15.2.1, x15.2.2)) false)) ?_
          refine TS.s rfl rfl rfl (StepS.pickF rfl hb18 rfl) ?_
          exact TS.up1 7 0 rfl rfl (by rw [hb18]; rfl) rfl
      refine TS.s rfl rfl rfl (StepS.assign rfl) ?_
      refine TS.code ?_
      refine TC.region_tail 5 kfollows_mixedOrders_true (by kernel_rfl) ?_
      refine TS.s rfl rfl rfl (StepS.move rfl) ?_
      refine TS.s rfl rfl rfl (StepS.nilc rfl) ?_
      refine TS.s rfl rfl rfl (StepS.fld rfl kfieldB_88_1_1_true) ?_
      refine TS.s rfl rfl rfl (StepS.ldB rfl (Ent.at 1 rfl) kscalB_86_true rfl) ?_
      refine TS.s rfl rfl rfl (StepS.ldBA rfl (Ent.at 0 rfl) kaggB_93_3_true rfl rfl) ?_
      refine TS.nil ?_
      refine TO.at ?_
      refine TO.mdelF0 (k := (x15.1, x15.2.1, x15.2.2)) 2 rfl kmapGB_86_93_4_true (KeyOk.key3 kkey3B_93_3_9_true kunderlying_93_some_struct_fieldsOf_93 kunderlying_3_some_int_i64 ksizeB_3_1_true kscalB_3_true kunderlying_9_some_string ksizeB_9_1_true kscalB_9_true kstoodInHeld_93_false) rfl rfl rfl ?_
      refine TO.code ?_
      refine TC.region ?_
      refine TO.s rfl rfl rfl (StepS.ari rfl rfl rfl) ?_
      refine TO.s rfl rfl rfl (StepS.move rfl) ?_
      cases hb13
      refine TO.nil fun a w e s => ?_
      exact ⟨e.sub (lk_of_allIn ⟨rfl, rfl, rfl, rfl, rfl, trivial⟩), s.mono fun _ => Sat.dropN 1⟩
    · replace hb13 := cond_f hc14 hb13
      cases hb13
      refine TC.exit rfl fun a w e s => ?_
      exact ⟨e.sub (lk_of_allIn ⟨rfl, trivial⟩), s⟩
  · exact fun a w e s => ⟨e.sub (lk_of_allIn ⟨rfl, rfl, rfl, rfl, rfl, trivial⟩), s⟩
  · rintro ⟨y9, b10⟩ rfl a w ⟨he, hs⟩
    dsimp only [Ctl.on] at hm
    refine TC.use ?_ he hs
    refine TC.k ?_
    refine TC.region ?_
    refine TO.s rfl rfl rfl (StepS.move rfl) ?_
    refine TO.s rfl rfl rfl (StepS.assign rfl) ?_
    refine TO.code ?_
    cases hm
    refine TC.ret fun a w e s => ?_
    refine FRet.mk1 (P := Tryd.prog) (fn := Tryd.f43) (t := 4) e rfl rfl ?_
    refine ⟨_, _, rfl, ⟨h0_1, rfl, rfl⟩, ?_⟩
    refine s.mono fun _ s => ?_
    replace s := Sat.front 1 rfl s
    replace s := Sat.front 1 rfl s
    exact s
  · rintro r rfl
    exact fun a w h => h.elim

set_option maxHeartbeats 1000000 in
set_option maxRecDepth 100000 in
theorem C31 {B : World} {L : List HP} {a0 : ((Int × Int × ByteArray) → Option Bool) × List (List (Int × ByteArray))} {a1 : Int × ByteArray × ByteArray × Int} {b0_ : Nat} {u0_0 : Value} {h0_1 : Nat} {h0_2 : Value} {h0_3 : List Value} {s0 : ((Int × Int × ByteArray) → Option Bool) × List (List (Int × ByteArray))} (hm : F31 a0 a1 = some s0) {w : World} (st : St B (Bx b0_ 88 [u0_0, .map (some h0_1), h0_2] :: MF (fun k : Int × Int × ByteArray => .agg #[I k.1, I k.2.1, .string k.2.2]) (fun x : Bool => .bool x) h0_1 (a0.1) :: SS 66 95 2 cTis h0_2 h0_3 (a0.2) :: L) w) : Calls Tryd.prog 31 #[.pointer (some ⟨b0_, 0, none⟩), .agg (cTissi a1).toArray] w (fun e w' => ∃ v M, e = .returned v ∧ (∃ (qr1 : Nat) (qhs2 : List Value), v = .tuple #[] ∧ M = (Bx b0_ 88 [u0_0, .map (some qr1), h0_2] :: MF (fun k : Int × Int × ByteArray => .agg #[I k.1, I k.2.1, .string k.2.2]) (fun x : Bool => .bool x) qr1 (s0.1) :: SS 66 95 2 cTis h0_2 qhs2 (s0.2) :: L)) ∧ St B M w') := by
  refine calls_of (N := 85) (L := (Bx b0_ 88 [u0_0, .map (some h0_1), h0_2] :: MF (fun k : Int × Int × ByteArray => .agg #[I k.1, I k.2.1, .string k.2.2]) (fun x : Bool => .bool x) h0_1 (a0.1) :: SS 66 95 2 cTis h0_2 h0_3 (a0.2) :: L)) (args := [.pointer (some ⟨b0_, 0, none⟩), .agg (cTissi a1).toArray]) Tryd.func31 rfl rfl rfl ?_ st
  dsimp only [F31] at hm
  refine TC.k ?_
  refine TC.region ?_
  refine TO.box (cs := [I a1.1, .string a1.2.1, .string a1.2.2.1, I a1.2.2.2]) rfl rfl rfl fun b5 => ?_
  refine TO.code ?_
  refine TC.k ?_
  refine TC.region ?_
  refine TO.s rfl rfl rfl (StepS.fld rfl kfieldB_45_1_1_true) ?_
  refine TO.s rfl rfl rfl (StepS.ldB rfl (Ent.at 0 rfl) kscalB_9_true rfl) ?_
  obtain ⟨⟨r6, r7⟩, hc8, hm⟩ := bind_some hm
  refine TO.q rfl rfl rfl (StepQ.call kcallB_42_true rfl rfl (fun _ st => C42  hc8 st)) ?_
  refine TO.s rfl rfl rfl (StepS.move rfl) ?_
  refine TO.s rfl rfl rfl (StepS.extract rfl rfl) ?_
  refine TO.s rfl rfl rfl (StepS.extract rfl rfl) ?_
  refine TO.s rfl rfl rfl (StepS.assign rfl) ?_
  refine TO.s rfl rfl rfl (StepS.assign rfl) ?_
  refine TO.code ?_
  refine TC.k ?_
  refine TC.region ?_
  refine TO.mkMF (kf := (fun k : Int => I k)) (vf := (fun x : Int => I x)) rfl fun r9 => ?_
  refine TO.insF (k := 1) (v := 1) 0 kmapGB_113_3_3_true (KeyOk.int kunderlying_3_some_int_i64) rfl rfl rfl rfl ?_
  refine TO.insF (k := 2) (v := 2) 0 kmapGB_113_3_3_true (KeyOk.int kunderlying_3_some_int_i64) rfl rfl rfl rfl ?_
  refine TO.insF (k := 3) (v := 3) 0 kmapGB_113_3_3_true (KeyOk.int kunderlying_3_some_int_i64) rfl rfl rfl rfl ?_
  refine TO.s rfl rfl rfl (StepS.move rfl) ?_
  refine TO.s rfl rfl rfl (StepS.fld rfl kfieldB_45_0_0_true) ?_
  refine TO.s rfl rfl rfl (StepS.ldB rfl (Ent.at 1 rfl) kscalB_3_true rfl) ?_
  refine TO.s rfl rfl rfl (StepS.lookF (k := a1.1) kmapGB_113_3_3_true (KeyOk.int kunderlying_3_some_int_i64) kinfo_3_bind_zero_some_I_0 rfl (Ent.at 0 rfl) rfl (getD_vf (vf := (fun x : Int => I x)) ((mupd (mupd (mupd (mzero : Int → Option Int) 1 1) 2 2) 3 3) a1.1) 0)) ?_
  refine TO.s rfl rfl rfl (StepS.assign rfl) ?_
  refine TO.code ?_
  refine TC.k ?_
  refine TC.region ?_
  refine TO.s rfl rfl rfl (StepS.move rfl) ?_
  refine TO.s rfl rfl rfl (StepS.nilc rfl) ?_
  refine TO.s rfl rfl rfl (StepS.fld rfl kfieldB_88_2_2_true) ?_
  refine TO.s rfl rfl rfl (StepS.ldB rfl (Ent.at 2 rfl) kscalB_60_true rfl) ?_
  refine TO.s rfl rfl rfl (StepS.lenRR rfl (SS.rr (Ent.at 4 rfl)) ksliceB_60_66_1_true rfl) ?_
  refine TO.s rfl rfl rfl (StepS.move rfl) ?_
  refine TO.code ?_
  obtain ⟨o28, hw29, hm⟩ := bind_some hm
  refine TC.loop hw29 (fun (y13, y14, x16) => fun a w => ∃ r12 : Nat, ∃ hs15 : List Value, Mid 85 B [(0, .pointer (some ⟨b0_, 0, none⟩)), (3, .pointer (some ⟨b5, 0, none⟩)), (4, .string r6), (6, I (((mupd (mupd (mupd (mzero : Int → Option Int) 1 1) 2 2) 3 3) a1.1).getD 0)), (27, I (a0.2.length : Int)), (28, I x16)] (MF (fun k : Int × Int × ByteArray => .agg #[I k.1, I k.2.1, .string k.2.2]) (fun x : Bool => .bool x) r12 (y13) :: MF (fun k : Int => I k) (fun x : Int => I x) r9 (mupd (mupd (mupd (mzero : Int → Option Int) 1 1) 2 2) 3 3) :: Bx b5 45 [I a1.1, .string a1.2.1, .string a1.2.2.1, I a1.2.2.2] :: Bx b0_ 88 [u0_0, .map (some r12), h0_2] :: SS 66 95 2 cTis h0_2 hs15 (y14) :: L) a w) (fun (y25, y26) => fun a w => ∃ r24 : Nat, ∃ hs27 : List Value, Mid 85 B [] (MF (fun k : Int × Int × ByteArray => .agg #[I k.1, I k.2.1, .string k.2.2]) (fun x : Bool => .bool x) r24 (y25) :: MF (fun k : Int => I k) (fun x : Int => I x) r9 (mupd (mupd (mupd (mzero : Int → Option Int) 1 1) 2 2) 3 3) :: Bx b5 45 [I a1.1, .string a1.2.1, .string a1.2.2.1, I a1.2.2.2] :: Bx b0_ 88 [u0_0, .map (some r24), h0_2] :: SS 66 95 2 cTis h0_2 hs27 (y26) :: L) a w) (fun (_ : Unit) _ _ => False) ?_ ?_ ?_ ?_
  · rintro ⟨y13, y14, x16⟩ o28r hb30 a w ⟨r12, hs15, he, hs⟩
    dsimp only [F31_L0] at hb30
    refine TC.use ?_ he hs
    refine TC.k ?_
    refine TC.region ?_
    refine TO.s rfl rfl rfl (StepS.cmp rfl rfl rfl) ?_
    refine TO.code ?_
    refine TC.k ?_
    refine TC.cond rfl (fun hc31 => ?_) (fun hc31 => ?_)
    · replace hb30 := cond_t hc31 hb30
      refine TC.skipk ?_
      refine TC.k ?_
      obtain ⟨⟨y34, y35⟩, hj37, hb30⟩ := bind_some hb30
      first | refine TC.cutM (fun a w => ∃ r33 : Nat, ∃ hs36 : List Value, Mid 85 B [(0, .pointer (some ⟨b0_, 0, none⟩)), (3, .pointer (some ⟨b5, 0, none⟩)), (4, .string r6), (6, I (((mupd (mupd (mupd (mzero : Int → Option Int) 1 1) 2 2) 3 3) a1.1).getD 0)), (27, I (a0.2.length : Int)), (28, I x16)] (MF (fun k : Int × Int × ByteArray => .agg #[I k.1, I k.2.1, .string k.2.2]) (fun x : Bool => .bool x) r33 (y34) :: MF (fun k : Int => I k) (fun x : Int => I x) r9 (mupd (mupd (mupd (mzero : Int → Option Int) 1 1) 2 2) 3 3) :: Bx b5 45 [I a1.1, .string a1.2.1, .string a1.2.2.1, I a1.2.2.2] :: Bx b0_ 88 [u0_0, .map (some r33), h0_2] :: SS 66 95 2 cTis h0_2 hs36 (y35) :: L) a w) ?_ ?_ | refine TC.cutX (fun a w => ∃ r33 : Nat, ∃ hs36 : List Value, Mid 85 B [(0, .pointer (some ⟨b0_, 0, none⟩)), (3, .pointer (some ⟨b5, 0, none⟩)), (4, .string r6), (6, I (((mupd (mupd (mupd (mzero : Int → Option Int) 1 1) 2 2) 3 3) a1.1).getD 0)), (27, I (a0.2.length : Int)), (28, I x16)] (MF (fun k : Int × Int × ByteArray => .agg #[I k.1, I k.2.1, .string k.2.2]) (fun x : Bool => .bool x) r33 (y34) :: MF (fun k : Int => I k) (fun x : Int => I x) r9 (mupd (mupd (mupd (mzero : Int → Option Int) 1 1) 2 2) 3 3) :: Bx b5 45 [I a1.1, .string a1.2.1, .string a1.2.2.1, I a1.2.2.2] :: Bx b0_ 88 [u0_0, .map (some r33), h0_2] :: SS 66 95 2 cTis h0_2 hs36 (y35) :: L) a w) ?_ ?_
      · refine TC.block ?_
        refine TC.k ?_
        refine TC.region ?_
        refine TO.s rfl rfl rfl (StepS.move rfl) ?_
        refine TO.s rfl rfl rfl (StepS.assign rfl) ?_
        refine TO.code ?_
        refine TC.k ?_
        obtain ⟨_, hj39, hj37⟩ := bind_some hj37
        first | refine TC.cutM (fun a w => ∃ bq38_13_1 : Nat, ∃ bq38_12_1 : Nat, ∃ bq38_11_1 : Nat, Mid 85 B [(0, .pointer (some ⟨b0_, 0, none⟩)), (3, .pointer (some ⟨b5, 0, none⟩)), (4, .string r6), (6, I (((mupd (mupd (mupd (mzero : Int → Option Int) 1 1) 2 2) 3 3) a1.1).getD 0)), (7, I x16), (8, .pointer (some ⟨bq38_11_1, 0, none⟩)), (9, .pointer (some ⟨bq38_12_1, 0, none⟩)), (10, .pointer (some ⟨bq38_13_1, 0, none⟩)), (27, I (a0.2.length : Int)), (28, I x16)] (Bx bq38_13_1 93 [I x16, I 5, .string r6] :: Bx bq38_12_1 93 [I x16, I 5, .string a1.2.1] :: Bx bq38_11_1 93 [I x16, I 4, .string a1.2.1] :: MF (fun k : Int × Int × ByteArray => .agg #[I k.1, I k.2.1, .string k.2.2]) (fun x : Bool => .bool x) r12 (y13) :: MF (fun k : Int => I k) (fun x : Int => I x) r9 (mupd (mupd (mupd (mzero : Int → Option Int) 1 1) 2 2) 3 3) :: Bx b5 45 [I a1.1, .string a1.2.1, .string a1.2.2.1, I a1.2.2.2] :: Bx b0_ 88 [u0_0, .map (some r12), h0_2] :: SS 66 95 2 cTis h0_2 hs15 (y14) :: L) a w) ?_ ?_ | refine TC.cutX (fun a w => ∃ bq38_13_1 : Nat, ∃ bq38_12_1 : Nat, ∃ bq38_11_1 : Nat, Mid 85 B [(0, .pointer (some ⟨b0_, 0, none⟩)), (3, .pointer (some ⟨b5, 0, none⟩)), (4, .string r6), (6, I (((mupd (mupd (mupd (mzero : Int → Option Int) 1 1) 2 2) 3 3) a1.1).getD 0)), (7, I x16), (8, .pointer (some ⟨bq38_11_1, 0, none⟩)), (9, .pointer (some ⟨bq38_12_1, 0, none⟩)), (10, .pointer (some ⟨bq38_13_1, 0, none⟩)), (27, I (a0.2.length : Int)), (28, I x16)] (Bx bq38_13_1 93 [I x16, I 5, .string r6] :: Bx bq38_12_1 93 [I x16, I 5, .string a1.2.1] :: Bx bq38_11_1 93 [I x16, I 4, .string a1.2.1] :: MF (fun k : Int × Int × ByteArray => .agg #[I k.1, I k.2.1, .string k.2.2]) (fun x : Bool => .bool x) r12 (y13) :: MF (fun k : Int => I k) (fun x : Int => I x) r9 (mupd (mupd (mupd (mzero : Int → Option Int) 1 1) 2 2) 3 3) :: Bx b5 45 [I a1.1, .string a1.2.1, .string a1.2.2.1, I a1.2.2.2] :: Bx b0_ 88 [u0_0, .map (some r12), h0_2] :: SS 66 95 2 cTis h0_2 hs15 (y14) :: L) a w) ?_ ?_
        · refine TC.region_any (MF (fun k : Int × Int × ByteArray => .agg #[I k.1, I k.2.1, .string k.2.2]) (fun x : Bool => .bool x) r12 (y13) :: MF (fun k : Int => I k) (fun x : Int => I x) r9 (mupd (mupd (mupd (mzero : Int → Option Int) 1 1) 2 2) 3 3) :: Bx b5 45 [I a1.1, .string a1.2.1, .string a1.2.2.1, I a1.2.2.2] :: Bx b0_ 88 [u0_0, .map (some r12), h0_2] :: SS 66 95 2 cTis h0_2 hs15 (y14) :: L) 14 17 kfollows_mixedOrders_true rfl ?_
          refine TA.takeW 0 rfl rfl rfl rfl (StepS.move rfl) (by kernel_rfl) (by kernel_rfl) (by kernel_rfl) rfl (.inr (fun _ s => s)) ?_
          refine TA.takeW 1 rfl rfl rfl rfl (StepS.fld rfl kfieldB_45_1_1_true) (by kernel_rfl) (by kernel_rfl) (by kernel_rfl) rfl (.inr (fun _ s => s)) ?_
          refine TA.take 2 rfl rfl rfl rfl (StepS.ldB rfl (Ent.at 2 rfl) kscalB_9_true rfl) (by kernel_rfl) (by kernel_rfl) (by kernel_rfl) (by kernel_rfl) (by kernel_rfl) (fun _ s => s) ?_
          refine TA.takeW 3 rfl rfl rfl rfl (StepS.build (cs := [I x16, I 4, .string a1.2.1]) rfl (by kernel_rfl)) (by kernel_rfl) (by kernel_rfl) (by kernel_rfl) rfl (.inr (fun _ s => s)) ?_
          refine TA.takeW 4 rfl rfl rfl rfl (StepS.move rfl) (by kernel_rfl) (by kernel_rfl) (by kernel_rfl) rfl (.inr (fun _ s => s)) ?_
          refine TA.takeW 5 rfl rfl rfl rfl (StepS.fld rfl kfieldB_45_1_1_true) (by kernel_rfl) (by kernel_rfl) (by kernel_rfl) rfl (.inr (fun _ s => s)) ?_
          refine TA.takeW 8 rfl rfl rfl rfl (StepS.move rfl) (by kernel_rfl) (by kernel_rfl) (by kernel_rfl) rfl (.inr (fun _ s => s)) ?_
          refine TA.takeW 9 rfl rfl rfl rfl (StepS.move rfl) (by kernel_rfl) (by kernel_rfl) (by kernel_rfl) rfl (.inr (fun _ s => s)) ?_
          refine TA.takeW 10 rfl rfl rfl rfl (StepS.build (cs := [I x16, I 5, .string r6]) rfl (by kernel_rfl)) (by kernel_rfl) (by kernel_rfl) (by kernel_rfl) rfl (.inr (fun _ s => s)) ?_
          refine TA.lem (γ := Nat × Nat × Nat) 0 #[true, true, true, true, true, true, true, true, true, true, true, true, true, true, true, true, true] (fun (bq38_11_1, bq38_12_1, bq38_13_1) => [(0, .pointer (some ⟨b0_, 0, none⟩)), (3, .pointer (some ⟨b5, 0, none⟩)), (4, .string r6), (6, I (((mupd (mupd (mupd (mzero : Int → Option Int) 1 1) 2 2) 3 3) a1.1).getD 0)), (7, I x16), (8, .pointer (some ⟨bq38_11_1, 0, none⟩)), (9, .pointer (some ⟨bq38_12_1, 0, none⟩)), (10, .pointer (some ⟨bq38_13_1, 0, none⟩)), (27, I (a0.2.length : Int)), (28, I x16)]) (fun (bq38_11_1, bq38_12_1, bq38_13_1) => (Bx bq38_11_1 93 [I x16, I 4, .string a1.2.1] :: Bx bq38_12_1 93 [I x16, I 5, .string a1.2.1] :: Bx bq38_13_1 93 [I x16, I 5, .string r6] :: MF (fun k : Int × Int × ByteArray => .agg #[I k.1, I k.2.1, .string k.2.2]) (fun x : Bool => .bool x) r12 (y13) :: MF (fun k : Int => I k) (fun x : Int => I x) r9 (mupd (mupd (mupd (mzero : Int → Option Int) 1 1) 2 2) 3 3) :: Bx b5 45 [I a1.1, .string a1.2.1, .string a1.2.2.1, I a1.2.2.2] :: Bx b0_ 88 [u0_0, .map (some r12), h0_2] :: SS 66 95 2 cTis h0_2 hs15 (y14) :: L)) ?_ fun hSq38_0 => ?_
          · rintro ⟨bq38_11_1, bq38_12_1, bq38_13_1⟩
            cases hj39
            refine TA.nil (by kernel_rfl) fun a w e s => ?_
            exact ⟨bq38_13_1, bq38_12_1, bq38_11_1, e.sub (lk_of_allIn ⟨rfl, rfl, rfl, rfl, rfl, rfl, rfl, rfl, rfl, rfl, trivial⟩), s.mono fun _ s => (by exact Sat.by [7, 7, 7, 7, 7, 5, 6, 7] 8 0 (by kernel_rfl) s)⟩
          refine TA.lem (γ := Nat × Nat × Nat) 1 #[true, true, true, true, true, true, true, true, true, true, true, true, true, true, true, true, false] (fun (bq38_11_1, bq38_12_1, bq38_13_1) => [(0, .pointer (some ⟨b0_, 0, none⟩)), (3, .pointer (some ⟨b5, 0, none⟩)), (4, .string r6), (6, I (((mupd (mupd (mupd (mzero : Int → Option Int) 1 1) 2 2) 3 3) a1.1).getD 0)), (7, I x16), (8, .pointer (some ⟨bq38_11_1, 0, none⟩)), (9, .pointer (some ⟨bq38_12_1, 0, none⟩)), (10, .pointer (some ⟨bq38_13_1, 0, none⟩)), (27, I (a0.2.length : Int)), (28, I x16), (41, .agg #[I x16, I 5, .string r6])]) (fun (bq38_11_1, bq38_12_1, bq38_13_1) => (Bx bq38_11_1 93 [I x16, I 4, .string a1.2.1] :: Bx bq38_12_1 93 [I x16, I 5, .string a1.2.1] :: Bx bq38_13_1 93 [I 0, I 0, .string ByteArray.empty] :: MF (fun k : Int × Int × ByteArray => .agg #[I k.1, I k.2.1, .string k.2.2]) (fun x : Bool => .bool x) r12 (y13) :: MF (fun k : Int => I k) (fun x : Int => I x) r9 (mupd (mupd (mupd (mzero : Int → Option Int) 1 1) 2 2) 3 3) :: Bx b5 45 [I a1.1, .string a1.2.1, .string a1.2.2.1, I a1.2.2.2] :: Bx b0_ 88 [u0_0, .map (some r12), h0_2] :: SS 66 95 2 cTis h0_2 hs15 (y14) :: L)) ?_ fun hSq38_1 => ?_
          · rintro ⟨bq38_11_1, bq38_12_1, bq38_13_1⟩
            refine TA.all1 (i := 16) (by kernel_rfl) ?_
            · refine TB.of rfl ?_
              refine TO.stB (us := [I x16, I 5, .string r6]) 2 [I x16, I 5, .string r6] rfl rfl rfl ksizeB_93_3_true rfl rfl rfl (by simp [Value.oneCell']) rfl ?_
              refine TA.back (.inl (by kernel_rfl)) ?_
              refine TA.asL (L' := (Bx bq38_11_1 93 [I x16, I 4, .string a1.2.1] :: Bx bq38_12_1 93 [I x16, I 5, .string a1.2.1] :: Bx bq38_13_1 93 [I x16, I 5, .string r6] :: MF (fun k : Int × Int × ByteArray => .agg #[I k.1, I k.2.1, .string k.2.2]) (fun x : Bool => .bool x) r12 (y13) :: MF (fun k : Int => I k) (fun x : Int => I x) r9 (mupd (mupd (mupd (mzero : Int → Option Int) 1 1) 2 2) 3 3) :: Bx b5 45 [I a1.1, .string a1.2.1, .string a1.2.2.1, I a1.2.2.2] :: Bx b0_ 88 [u0_0, .map (some r12), h0_2] :: SS 66 95 2 cTis h0_2 hs15 (y14) :: L)) (listed' := #[true, true, true, true, true, true, true, true, true, true, true, true, true, true, true, true, true]) (by kernel_rfl) (by kernel_rfl) ?_
              exact TA.jump hSq38_0 (bq38_11_1, bq38_12_1, bq38_13_1) rfl (by kernel_rfl) ⟨rfl, rfl, rfl, rfl, rfl, rfl, rfl, rfl, rfl, rfl, trivial⟩ (fun _ s => Sat.by [7, 7, 7, 7, 7, 7, 7, 7] 8 0 (by kernel_rfl) s)
          refine TA.lem (γ := Nat × Nat × Nat) 2 #[true, true, true, true, true, true, true, true, true, true, true, true, true, true, true, false, false] (fun (bq38_11_1, bq38_12_1, bq38_13_1) => [(0, .pointer (some ⟨b0_, 0, none⟩)), (3, .pointer (some ⟨b5, 0, none⟩)), (4, .string r6), (6, I (((mupd (mupd (mupd (mzero : Int → Option Int) 1 1) 2 2) 3 3) a1.1).getD 0)), (7, I x16), (8, .pointer (some ⟨bq38_11_1, 0, none⟩)), (9, .pointer (some ⟨bq38_12_1, 0, none⟩)), (10, .pointer (some ⟨bq38_13_1, 0, none⟩)), (27, I (a0.2.length : Int)), (28, I x16), (38, .agg #[I x16, I 5, .string a1.2.1]), (41, .agg #[I x16, I 5, .string r6])]) (fun (bq38_11_1, bq38_12_1, bq38_13_1) => (Bx bq38_11_1 93 [I x16, I 4, .string a1.2.1] :: Bx bq38_12_1 93 [I 0, I 0, .string ByteArray.empty] :: Bx bq38_13_1 93 [I 0, I 0, .string ByteArray.empty] :: MF (fun k : Int × Int × ByteArray => .agg #[I k.1, I k.2.1, .string k.2.2]) (fun x : Bool => .bool x) r12 (y13) :: MF (fun k : Int => I k) (fun x : Int => I x) r9 (mupd (mupd (mupd (mzero : Int → Option Int) 1 1) 2 2) 3 3) :: Bx b5 45 [I a1.1, .string a1.2.1, .string a1.2.2.1, I a1.2.2.2] :: Bx b0_ 88 [u0_0, .map (some r12), h0_2] :: SS 66 95 2 cTis h0_2 hs15 (y14) :: L)) ?_ fun hSq38_2 => ?_
          · rintro ⟨bq38_11_1, bq38_12_1, bq38_13_1⟩
            refine TA.all1 (i := 15) (by kernel_rfl) ?_
            · refine TB.of rfl ?_
              refine TO.stB (us := [I x16, I 5, .string a1.2.1]) 1 [I x16, I 5, .string a1.2.1] rfl rfl rfl ksizeB_93_3_true rfl rfl rfl (by simp [Value.oneCell']) rfl ?_
              refine TA.back (.inl (by kernel_rfl)) ?_
              refine TA.asL (L' := (Bx bq38_11_1 93 [I x16, I 4, .string a1.2.1] :: Bx bq38_12_1 93 [I x16, I 5, .string a1.2.1] :: Bx bq38_13_1 93 [I 0, I 0, .string ByteArray.empty] :: MF (fun k : Int × Int × ByteArray => .agg #[I k.1, I k.2.1, .string k.2.2]) (fun x : Bool => .bool x) r12 (y13) :: MF (fun k : Int => I k) (fun x : Int => I x) r9 (mupd (mupd (mupd (mzero : Int → Option Int) 1 1) 2 2) 3 3) :: Bx b5 45 [I a1.1, .string a1.2.1, .string a1.2.2.1, I a1.2.2.2] :: Bx b0_ 88 [u0_0, .map (some r12), h0_2] :: SS 66 95 2 cTis h0_2 hs15 (y14) :: L)) (listed' := #[true, true, true, true, true, true, true, true, true, true, true, true, true, true, true, true, false]) (by kernel_rfl) (by kernel_rfl) ?_
              exact TA.jump hSq38_1 (bq38_11_1, bq38_12_1, bq38_13_1) rfl (by kernel_rfl) ⟨rfl, rfl, rfl, rfl, rfl, rfl, rfl, rfl, rfl, rfl, rfl, trivial⟩ (fun _ s => Sat.by [7, 7, 7, 7, 7, 7, 7, 7] 8 0 (by kernel_rfl) s)
          refine TA.lem (γ := Nat × Nat × Nat) 3 #[true, true, true, true, true, true, true, true, true, true, true, true, true, true, false, false, false] (fun (bq38_11_1, bq38_12_1, bq38_13_1) => [(0, .pointer (some ⟨b0_, 0, none⟩)), (3, .pointer (some ⟨b5, 0, none⟩)), (4, .string r6), (6, I (((mupd (mupd (mupd (mzero : Int → Option Int) 1 1) 2 2) 3 3) a1.1).getD 0)), (7, I x16), (8, .pointer (some ⟨bq38_11_1, 0, none⟩)), (9, .pointer (some ⟨bq38_12_1, 0, none⟩)), (10, .pointer (some ⟨bq38_13_1, 0, none⟩)), (27, I (a0.2.length : Int)), (28, I x16), (34, .agg #[I x16, I 4, .string a1.2.1]), (38, .agg #[I x16, I 5, .string a1.2.1]), (41, .agg #[I x16, I 5, .string r6])]) (fun (bq38_11_1, bq38_12_1, bq38_13_1) => (Bx bq38_11_1 93 [I 0, I 0, .string ByteArray.empty] :: Bx bq38_12_1 93 [I 0, I 0, .string ByteArray.empty] :: Bx bq38_13_1 93 [I 0, I 0, .string ByteArray.empty] :: MF (fun k : Int × Int × ByteArray => .agg #[I k.1, I k.2.1, .string k.2.2]) (fun x : Bool => .bool x) r12 (y13) :: MF (fun k : Int => I k) (fun x : Int => I x) r9 (mupd (mupd (mupd (mzero : Int → Option Int) 1 1) 2 2) 3 3) :: Bx b5 45 [I a1.1, .string a1.2.1, .string a1.2.2.1, I a1.2.2.2] :: Bx b0_ 88 [u0_0, .map (some r12), h0_2] :: SS 66 95 2 cTis h0_2 hs15 (y14) :: L)) ?_ fun hSq38_3 => ?_
          · rintro ⟨bq38_11_1, bq38_12_1, bq38_13_1⟩
            refine TA.all1 (i := 14) (by kernel_rfl) ?_
            · refine TB.of rfl ?_
              refine TO.stB (us := [I x16, I 4, .string a1.2.1]) 0 [I x16, I 4, .string a1.2.1] rfl rfl rfl ksizeB_93_3_true rfl rfl rfl (by simp [Value.oneCell']) rfl ?_
              refine TA.back (.inl (by kernel_rfl)) ?_
              refine TA.asL (L' := (Bx bq38_11_1 93 [I x16, I 4, .string a1.2.1] :: Bx bq38_12_1 93 [I 0, I 0, .string ByteArray.empty] :: Bx bq38_13_1 93 [I 0, I 0, .string ByteArray.empty] :: MF (fun k : Int × Int × ByteArray => .agg #[I k.1, I k.2.1, .string k.2.2]) (fun x : Bool => .bool x) r12 (y13) :: MF (fun k : Int => I k) (fun x : Int => I x) r9 (mupd (mupd (mupd (mzero : Int → Option Int) 1 1) 2 2) 3 3) :: Bx b5 45 [I a1.1, .string a1.2.1, .string a1.2.2.1, I a1.2.2.2] :: Bx b0_ 88 [u0_0, .map (some r12), h0_2] :: SS 66 95 2 cTis h0_2 hs15 (y14) :: L)) (listed' := #[true, true, true, true, true, true, true, true, true, true, true, true, true, true, true, false, false]) (by kernel_rfl) (by kernel_rfl) ?_
              exact TA.jump hSq38_2 (bq38_11_1, bq38_12_1, bq38_13_1) rfl (by kernel_rfl) ⟨rfl, rfl, rfl, rfl, rfl, rfl, rfl, rfl, rfl, rfl, rfl, rfl, trivial⟩ (fun _ s => Sat.by [7, 7, 7, 7, 7, 7, 7, 7] 8 0 (by kernel_rfl) s)
          refine TA.lem (γ := Nat × Nat) 4 #[true, true, true, true, true, true, true, true, true, true, true, false, true, true, false, false, false] (fun (bq38_12_1, bq38_13_1) => [(0, .pointer (some ⟨b0_, 0, none⟩)), (3, .pointer (some ⟨b5, 0, none⟩)), (4, .string r6), (6, I (((mupd (mupd (mupd (mzero : Int → Option Int) 1 1) 2 2) 3 3) a1.1).getD 0)), (7, I x16), (9, .pointer (some ⟨bq38_12_1, 0, none⟩)), (10, .pointer (some ⟨bq38_13_1, 0, none⟩)), (27, I (a0.2.length : Int)), (28, I x16), (34, .agg #[I x16, I 4, .string a1.2.1]), (38, .agg #[I x16, I 5, .string a1.2.1]), (41, .agg #[I x16, I 5, .string r6])]) (fun (bq38_12_1, bq38_13_1) => (Bx bq38_12_1 93 [I 0, I 0, .string ByteArray.empty] :: Bx bq38_13_1 93 [I 0, I 0, .string ByteArray.empty] :: MF (fun k : Int × Int × ByteArray => .agg #[I k.1, I k.2.1, .string k.2.2]) (fun x : Bool => .bool x) r12 (y13) :: MF (fun k : Int => I k) (fun x : Int => I x) r9 (mupd (mupd (mupd (mzero : Int → Option Int) 1 1) 2 2) 3 3) :: Bx b5 45 [I a1.1, .string a1.2.1, .string a1.2.2.1, I a1.2.2.2] :: Bx b0_ 88 [u0_0, .map (some r12), h0_2] :: SS 66 95 2 cTis h0_2 hs15 (y14) :: L)) ?_ fun hSq38_4 => ?_
          · rintro ⟨bq38_12_1, bq38_13_1⟩
            refine TA.all1 (i := 11) (by kernel_rfl) ?_
            · refine TB.of rfl ?_
              refine TO.alloc kinfo_93_bind_zero_some_agg_I_0_I_0_string_ByteArray_empty rfl rfl fun bq38_11_1 => ?_
              refine TA.back (.inr (fun _ s => Sat.by [7, 7, 7, 7, 7] 5 3 (by kernel_rfl) s)) ?_
              refine TA.asL (L' := (Bx bq38_11_1 93 [I 0, I 0, .string ByteArray.empty] :: Bx bq38_12_1 93 [I 0, I 0, .string ByteArray.empty] :: Bx bq38_13_1 93 [I 0, I 0, .string ByteArray.empty] :: MF (fun k : Int × Int × ByteArray => .agg #[I k.1, I k.2.1, .string k.2.2]) (fun x : Bool => .bool x) r12 (y13) :: MF (fun k : Int => I k) (fun x : Int => I x) r9 (mupd (mupd (mupd (mzero : Int → Option Int) 1 1) 2 2) 3 3) :: Bx b5 45 [I a1.1, .string a1.2.1, .string a1.2.2.1, I a1.2.2.2] :: Bx b0_ 88 [u0_0, .map (some r12), h0_2] :: SS 66 95 2 cTis h0_2 hs15 (y14) :: L)) (listed' := #[true, true, true, true, true, true, true, true, true, true, true, true, true, true, false, false, false]) (by kernel_rfl) (by kernel_rfl) ?_
              exact TA.jump hSq38_3 (bq38_11_1, bq38_12_1, bq38_13_1) rfl (by kernel_rfl) ⟨rfl, rfl, rfl, rfl, rfl, rfl, rfl, rfl, rfl, rfl, rfl, rfl, rfl, trivial⟩ (fun _ s => Sat.by [7, 7, 7, 7, 7, 7, 7, 7] 8 0 (by kernel_rfl) s)
          refine TA.lem (γ := Nat × Nat × Nat) 4 #[true, true, true, true, true, true, false, false, true, true, true, true, true, true, true, false, false] (fun (bq38_11_1, bq38_12_1, bq38_13_1) => [(0, .pointer (some ⟨b0_, 0, none⟩)), (3, .pointer (some ⟨b5, 0, none⟩)), (4, .string r6), (6, I (((mupd (mupd (mupd (mzero : Int → Option Int) 1 1) 2 2) 3 3) a1.1).getD 0)), (7, I x16), (8, .pointer (some ⟨bq38_11_1, 0, none⟩)), (9, .pointer (some ⟨bq38_12_1, 0, none⟩)), (10, .pointer (some ⟨bq38_13_1, 0, none⟩)), (27, I (a0.2.length : Int)), (28, I x16), (35, I x16), (36, .pointer (some ⟨b5, 0 + 1, none⟩)), (41, .agg #[I x16, I 5, .string r6])]) (fun (bq38_11_1, bq38_12_1, bq38_13_1) => (Bx bq38_11_1 93 [I x16, I 4, .string a1.2.1] :: Bx bq38_12_1 93 [I 0, I 0, .string ByteArray.empty] :: Bx bq38_13_1 93 [I 0, I 0, .string ByteArray.empty] :: MF (fun k : Int × Int × ByteArray => .agg #[I k.1, I k.2.1, .string k.2.2]) (fun x : Bool => .bool x) r12 (y13) :: MF (fun k : Int => I k) (fun x : Int => I x) r9 (mupd (mupd (mupd (mzero : Int → Option Int) 1 1) 2 2) 3 3) :: Bx b5 45 [I a1.1, .string a1.2.1, .string a1.2.2.1, I a1.2.2.2] :: Bx b0_ 88 [u0_0, .map (some r12), h0_2] :: SS 66 95 2 cTis h0_2 hs15 (y14) :: L)) ?_ fun hSq38_5 => ?_
          · rintro ⟨bq38_11_1, bq38_12_1, bq38_13_1⟩
            refine TA.all1 (i := 6) (by kernel_rfl) ?_
            · refine TB.of rfl ?_
              refine TO.s rfl rfl rfl (StepS.ldB rfl (Ent.at 5 rfl) kscalB_9_true rfl) ?_
              refine TA.back (.inl (by kernel_rfl)) ?_
              refine TA.asL (L' := (Bx bq38_11_1 93 [I x16, I 4, .string a1.2.1] :: Bx bq38_12_1 93 [I 0, I 0, .string ByteArray.empty] :: Bx bq38_13_1 93 [I 0, I 0, .string ByteArray.empty] :: MF (fun k : Int × Int × ByteArray => .agg #[I k.1, I k.2.1, .string k.2.2]) (fun x : Bool => .bool x) r12 (y13) :: MF (fun k : Int => I k) (fun x : Int => I x) r9 (mupd (mupd (mupd (mzero : Int → Option Int) 1 1) 2 2) 3 3) :: Bx b5 45 [I a1.1, .string a1.2.1, .string a1.2.2.1, I a1.2.2.2] :: Bx b0_ 88 [u0_0, .map (some r12), h0_2] :: SS 66 95 2 cTis h0_2 hs15 (y14) :: L)) (listed' := #[true, true, true, true, true, true, true, false, true, true, true, true, true, true, true, false, false]) (by kernel_rfl) (by kernel_rfl) ?_
              refine TA.takeW 7 rfl rfl rfl rfl (StepS.build (cs := [I x16, I 5, .string a1.2.1]) rfl (by kernel_rfl)) (by kernel_rfl) (by kernel_rfl) (by kernel_rfl) rfl (.inl (by kernel_rfl)) ?_
              exact TA.jump hSq38_2 (bq38_11_1, bq38_12_1, bq38_13_1) rfl (by kernel_rfl) ⟨rfl, rfl, rfl, rfl, rfl, rfl, rfl, rfl, rfl, rfl, rfl, rfl, trivial⟩ (fun _ s => Sat.by [7, 7, 7, 7, 7, 7, 7, 7] 8 0 (by kernel_rfl) s)
          refine TA.lem (γ := Nat × Nat) 4 #[true, true, true, true, true, true, true, true, true, true, true, true, false, true, false, false, false] (fun (bq38_11_1, bq38_13_1) => [(0, .pointer (some ⟨b0_, 0, none⟩)), (3, .pointer (some ⟨b5, 0, none⟩)), (4, .string r6), (6, I (((mupd (mupd (mupd (mzero : Int → Option Int) 1 1) 2 2) 3 3) a1.1).getD 0)), (7, I x16), (8, .pointer (some ⟨bq38_11_1, 0, none⟩)), (10, .pointer (some ⟨bq38_13_1, 0, none⟩)), (27, I (a0.2.length : Int)), (28, I x16), (34, .agg #[I x16, I 4, .string a1.2.1]), (38, .agg #[I x16, I 5, .string a1.2.1]), (41, .agg #[I x16, I 5, .string r6])]) (fun (bq38_11_1, bq38_13_1) => (Bx bq38_11_1 93 [I 0, I 0, .string ByteArray.empty] :: Bx bq38_13_1 93 [I 0, I 0, .string ByteArray.empty] :: MF (fun k : Int × Int × ByteArray => .agg #[I k.1, I k.2.1, .string k.2.2]) (fun x : Bool => .bool x) r12 (y13) :: MF (fun k : Int => I k) (fun x : Int => I x) r9 (mupd (mupd (mupd (mzero : Int → Option Int) 1 1) 2 2) 3 3) :: Bx b5 45 [I a1.1, .string a1.2.1, .string a1.2.2.1, I a1.2.2.2] :: Bx b0_ 88 [u0_0, .map (some r12), h0_2] :: SS 66 95 2 cTis h0_2 hs15 (y14) :: L)) ?_ fun hSq38_6 => ?_
          · rintro ⟨bq38_11_1, bq38_13_1⟩
            refine TA.all1 (i := 12) (by kernel_rfl) ?_
            · refine TB.of rfl ?_
              refine TO.alloc kinfo_93_bind_zero_some_agg_I_0_I_0_string_ByteArray_empty rfl rfl fun bq38_12_1 => ?_
              refine TA.back (.inr (fun _ s => Sat.by [7, 7, 7, 7, 7] 5 3 (by kernel_rfl) s)) ?_
              refine TA.asL (L' := (Bx bq38_12_1 93 [I 0, I 0, .string ByteArray.empty] :: Bx bq38_11_1 93 [I 0, I 0, .string ByteArray.empty] :: Bx bq38_13_1 93 [I 0, I 0, .string ByteArray.empty] :: MF (fun k : Int × Int × ByteArray => .agg #[I k.1, I k.2.1, .string k.2.2]) (fun x : Bool => .bool x) r12 (y13) :: MF (fun k : Int => I k) (fun x : Int => I x) r9 (mupd (mupd (mupd (mzero : Int → Option Int) 1 1) 2 2) 3 3) :: Bx b5 45 [I a1.1, .string a1.2.1, .string a1.2.2.1, I a1.2.2.2] :: Bx b0_ 88 [u0_0, .map (some r12), h0_2] :: SS 66 95 2 cTis h0_2 hs15 (y14) :: L)) (listed' := #[true, true, true, true, true, true, true, true, true, true, true, true, true, true, false, false, false]) (by kernel_rfl) (by kernel_rfl) ?_
              exact TA.jump hSq38_3 (bq38_11_1, bq38_12_1, bq38_13_1) rfl (by kernel_rfl) ⟨rfl, rfl, rfl, rfl, rfl, rfl, rfl, rfl, rfl, rfl, rfl, rfl, rfl, trivial⟩ (fun _ s => Sat.by [7, 7, 7, 7, 7, 7, 6, 7] 8 0 (by kernel_rfl) s)
          refine TA.lem (γ := Nat × Nat) 4 #[true, true, true, true, true, true, true, true, true, true, true, true, true, false, false, false, false] (fun (bq38_11_1, bq38_12_1) => [(0, .pointer (some ⟨b0_, 0, none⟩)), (3, .pointer (some ⟨b5, 0, none⟩)), (4, .string r6), (6, I (((mupd (mupd (mupd (mzero : Int → Option Int) 1 1) 2 2) 3 3) a1.1).getD 0)), (7, I x16), (8, .pointer (some ⟨bq38_11_1, 0, none⟩)), (9, .pointer (some ⟨bq38_12_1, 0, none⟩)), (27, I (a0.2.length : Int)), (28, I x16), (34, .agg #[I x16, I 4, .string a1.2.1]), (38, .agg #[I x16, I 5, .string a1.2.1]), (41, .agg #[I x16, I 5, .string r6])]) (fun (bq38_11_1, bq38_12_1) => (Bx bq38_11_1 93 [I 0, I 0, .string ByteArray.empty] :: Bx bq38_12_1 93 [I 0, I 0, .string ByteArray.empty] :: MF (fun k : Int × Int × ByteArray => .agg #[I k.1, I k.2.1, .string k.2.2]) (fun x : Bool => .bool x) r12 (y13) :: MF (fun k : Int => I k) (fun x : Int => I x) r9 (mupd (mupd (mupd (mzero : Int → Option Int) 1 1) 2 2) 3 3) :: Bx b5 45 [I a1.1, .string a1.2.1, .string a1.2.2.1, I a1.2.2.2] :: Bx b0_ 88 [u0_0, .map (some r12), h0_2] :: SS 66 95 2 cTis h0_2 hs15 (y14) :: L)) ?_ fun hSq38_7 => ?_
          · rintro ⟨bq38_11_1, bq38_12_1⟩
            refine TA.all1 (i := 13) (by kernel_rfl) ?_
            · refine TB.of rfl ?_
              refine TO.alloc kinfo_93_bind_zero_some_agg_I_0_I_0_string_ByteArray_empty rfl rfl fun bq38_13_1 => ?_
              refine TA.back (.inr (fun _ s => Sat.by [7, 7, 7, 7, 7] 5 3 (by kernel_rfl) s)) ?_
              refine TA.asL (L' := (Bx bq38_13_1 93 [I 0, I 0, .string ByteArray.empty] :: Bx bq38_11_1 93 [I 0, I 0, .string ByteArray.empty] :: Bx bq38_12_1 93 [I 0, I 0, .string ByteArray.empty] :: MF (fun k : Int × Int × ByteArray => .agg #[I k.1, I k.2.1, .string k.2.2]) (fun x : Bool => .bool x) r12 (y13) :: MF (fun k : Int => I k) (fun x : Int => I x) r9 (mupd (mupd (mupd (mzero : Int → Option Int) 1 1) 2 2) 3 3) :: Bx b5 45 [I a1.1, .string a1.2.1, .string a1.2.2.1, I a1.2.2.2] :: Bx b0_ 88 [u0_0, .map (some r12), h0_2] :: SS 66 95 2 cTis h0_2 hs15 (y14) :: L)) (listed' := #[true, true, true, true, true, true, true, true, true, true, true, true, true, true, false, false, false]) (by kernel_rfl) (by kernel_rfl) ?_
              exact TA.jump hSq38_3 (bq38_11_1, bq38_12_1, bq38_13_1) rfl (by kernel_rfl) ⟨rfl, rfl, rfl, rfl, rfl, rfl, rfl, rfl, rfl, rfl, rfl, rfl, rfl, trivial⟩ (fun _ s => Sat.by [7, 7, 7, 7, 7, 5, 7, 7] 8 0 (by kernel_rfl) s)
          refine TA.lem (γ := Nat) 5 #[true, true, true, true, true, true, true, true, true, true, true, false, false, true, false, false, false] (fun bq38_13_1 => [(0, .pointer (some ⟨b0_, 0, none⟩)), (3, .pointer (some ⟨b5, 0, none⟩)), (4, .string r6), (6, I (((mupd (mupd (mupd (mzero : Int → Option Int) 1 1) 2 2) 3 3) a1.1).getD 0)), (7, I x16), (10, .pointer (some ⟨bq38_13_1, 0, none⟩)), (27, I (a0.2.length : Int)), (28, I x16), (34, .agg #[I x16, I 4, .string a1.2.1]), (38, .agg #[I x16, I 5, .string a1.2.1]), (41, .agg #[I x16, I 5, .string r6])]) (fun bq38_13_1 => (Bx bq38_13_1 93 [I 0, I 0, .string ByteArray.empty] :: MF (fun k : Int × Int × ByteArray => .agg #[I k.1, I k.2.1, .string k.2.2]) (fun x : Bool => .bool x) r12 (y13) :: MF (fun k : Int => I k) (fun x : Int => I x) r9 (mupd (mupd (mupd (mzero : Int → Option Int) 1 1) 2 2) 3 3) :: Bx b5 45 [I a1.1, .string a1.2.1, .string a1.2.2.1, I a1.2.2.2] :: Bx b0_ 88 [u0_0, .map (some r12), h0_2] :: SS 66 95 2 cTis h0_2 hs15 (y14) :: L)) ?_ fun hSq38_8 => ?_
          · intro bq38_13_1
            refine TA.all2 (i := 11) (j := 12) (by kernel_rfl) ?_ ?_
            · refine TB.of rfl ?_
              refine TO.alloc kinfo_93_bind_zero_some_agg_I_0_I_0_string_ByteArray_empty rfl rfl fun bq38_11_1 => ?_
              refine TA.back (.inr (fun _ s => Sat.by [6, 6, 6, 6, 6] 5 2 (by kernel_rfl) s)) ?_
              refine TA.asL (L' := (Bx bq38_11_1 93 [I 0, I 0, .string ByteArray.empty] :: Bx bq38_13_1 93 [I 0, I 0, .string ByteArray.empty] :: MF (fun k : Int × Int × ByteArray => .agg #[I k.1, I k.2.1, .string k.2.2]) (fun x : Bool => .bool x) r12 (y13) :: MF (fun k : Int => I k) (fun x : Int => I x) r9 (mupd (mupd (mupd (mzero : Int → Option Int) 1 1) 2 2) 3 3) :: Bx b5 45 [I a1.1, .string a1.2.1, .string a1.2.2.1, I a1.2.2.2] :: Bx b0_ 88 [u0_0, .map (some r12), h0_2] :: SS 66 95 2 cTis h0_2 hs15 (y14) :: L)) (listed' := #[true, true, true, true, true, true, true, true, true, true, true, true, false, true, false, false, false]) (by kernel_rfl) (by kernel_rfl) ?_
              exact TA.jump hSq38_6 (bq38_11_1, bq38_13_1) rfl (by kernel_rfl) ⟨rfl, rfl, rfl, rfl, rfl, rfl, rfl, rfl, rfl, rfl, rfl, rfl, trivial⟩ (fun _ s => Sat.by [6, 6, 6, 6, 6, 6, 6] 7 0 (by kernel_rfl) s)
            · refine TB.of rfl ?_
              refine TO.alloc kinfo_93_bind_zero_some_agg_I_0_I_0_string_ByteArray_empty rfl rfl fun bq38_12_1 => ?_
              refine TA.back (.inr (fun _ s => Sat.by [6, 6, 6, 6, 6] 5 2 (by kernel_rfl) s)) ?_
              refine TA.asL (L' := (Bx bq38_12_1 93 [I 0, I 0, .string ByteArray.empty] :: Bx bq38_13_1 93 [I 0, I 0, .string ByteArray.empty] :: MF (fun k : Int × Int × ByteArray => .agg #[I k.1, I k.2.1, .string k.2.2]) (fun x : Bool => .bool x) r12 (y13) :: MF (fun k : Int => I k) (fun x : Int => I x) r9 (mupd (mupd (mupd (mzero : Int → Option Int) 1 1) 2 2) 3 3) :: Bx b5 45 [I a1.1, .string a1.2.1, .string a1.2.2.1, I a1.2.2.2] :: Bx b0_ 88 [u0_0, .map (some r12), h0_2] :: SS 66 95 2 cTis h0_2 hs15 (y14) :: L)) (listed' := #[true, true, true, true, true, true, true, true, true, true, true, false, true, true, false, false, false]) (by kernel_rfl) (by kernel_rfl) ?_
              exact TA.jump hSq38_4 (bq38_12_1, bq38_13_1) rfl (by kernel_rfl) ⟨rfl, rfl, rfl, rfl, rfl, rfl, rfl, rfl, rfl, rfl, rfl, rfl, trivial⟩ (fun _ s => Sat.by [6, 6, 6, 6, 6, 6, 6] 7 0 (by kernel_rfl) s)
          refine TA.lem (γ := Nat × Nat × Nat) 5 #[true, true, true, true, true, true, false, false, true, true, true, true, true, true, false, false, false] (fun (bq38_11_1, bq38_12_1, bq38_13_1) => [(0, .pointer (some ⟨b0_, 0, none⟩)), (3, .pointer (some ⟨b5, 0, none⟩)), (4, .string r6), (6, I (((mupd (mupd (mupd (mzero : Int → Option Int) 1 1) 2 2) 3 3) a1.1).getD 0)), (7, I x16), (8, .pointer (some ⟨bq38_11_1, 0, none⟩)), (9, .pointer (some ⟨bq38_12_1, 0, none⟩)), (10, .pointer (some ⟨bq38_13_1, 0, none⟩)), (27, I (a0.2.length : Int)), (28, I x16), (34, .agg #[I x16, I 4, .string a1.2.1]), (35, I x16), (36, .pointer (some ⟨b5, 0 + 1, none⟩)), (41, .agg #[I x16, I 5, .string r6])]) (fun (bq38_11_1, bq38_12_1, bq38_13_1) => (Bx bq38_11_1 93 [I 0, I 0, .string ByteArray.empty] :: Bx bq38_12_1 93 [I 0, I 0, .string ByteArray.empty] :: Bx bq38_13_1 93 [I 0, I 0, .string ByteArray.empty] :: MF (fun k : Int × Int × ByteArray => .agg #[I k.1, I k.2.1, .string k.2.2]) (fun x : Bool => .bool x) r12 (y13) :: MF (fun k : Int => I k) (fun x : Int => I x) r9 (mupd (mupd (mupd (mzero : Int → Option Int) 1 1) 2 2) 3 3) :: Bx b5 45 [I a1.1, .string a1.2.1, .string a1.2.2.1, I a1.2.2.2] :: Bx b0_ 88 [u0_0, .map (some r12), h0_2] :: SS 66 95 2 cTis h0_2 hs15 (y14) :: L)) ?_ fun hSq38_9 => ?_
          · rintro ⟨bq38_11_1, bq38_12_1, bq38_13_1⟩
            refine TA.all2 (i := 6) (j := 14) (by kernel_rfl) ?_ ?_
            · refine TB.of rfl ?_
              refine TO.s rfl rfl rfl (StepS.ldB rfl (Ent.at 5 rfl) kscalB_9_true rfl) ?_
              refine TA.back (.inr (fun _ s => Sat.by [7, 7, 7, 7, 7] 5 3 (by kernel_rfl) s)) ?_
              refine TA.asL (L' := (Bx bq38_11_1 93 [I 0, I 0, .string ByteArray.empty] :: Bx bq38_12_1 93 [I 0, I 0, .string ByteArray.empty] :: Bx bq38_13_1 93 [I 0, I 0, .string ByteArray.empty] :: MF (fun k : Int × Int × ByteArray => .agg #[I k.1, I k.2.1, .string k.2.2]) (fun x : Bool => .bool x) r12 (y13) :: MF (fun k : Int => I k) (fun x : Int => I x) r9 (mupd (mupd (mupd (mzero : Int → Option Int) 1 1) 2 2) 3 3) :: Bx b5 45 [I a1.1, .string a1.2.1, .string a1.2.2.1, I a1.2.2.2] :: Bx b0_ 88 [u0_0, .map (some r12), h0_2] :: SS 66 95 2 cTis h0_2 hs15 (y14) :: L)) (listed' := #[true, true, true, true, true, true, true, false, true, true, true, true, true, true, false, false, false]) (by kernel_rfl) (by kernel_rfl) ?_
              refine TA.takeW 7 rfl rfl rfl rfl (StepS.build (cs := [I x16, I 5, .string a1.2.1]) rfl (by kernel_rfl)) (by kernel_rfl) (by kernel_rfl) (by kernel_rfl) rfl (.inr (fun _ s => Sat.by [7, 7, 7, 7, 7] 5 3 (by kernel_rfl) s)) ?_
              exact TA.jump hSq38_3 (bq38_11_1, bq38_12_1, bq38_13_1) rfl (by kernel_rfl) ⟨rfl, rfl, rfl, rfl, rfl, rfl, rfl, rfl, rfl, rfl, rfl, rfl, rfl, trivial⟩ (fun _ s => Sat.by [7, 7, 7, 7, 7, 7, 7, 7] 8 0 (by kernel_rfl) s)
            · refine TB.of rfl ?_
              refine TO.stB (us := [I x16, I 4, .string a1.2.1]) 0 [I x16, I 4, .string a1.2.1] rfl rfl rfl ksizeB_93_3_true rfl rfl rfl (by simp [Value.oneCell']) rfl ?_
              refine TA.back (.inl (by kernel_rfl)) ?_
              refine TA.asL (L' := (Bx bq38_11_1 93 [I x16, I 4, .string a1.2.1] :: Bx bq38_12_1 93 [I 0, I 0, .string ByteArray.empty] :: Bx bq38_13_1 93 [I 0, I 0, .string ByteArray.empty] :: MF (fun k : Int × Int × ByteArray => .agg #[I k.1, I k.2.1, .string k.2.2]) (fun x : Bool => .bool x) r12 (y13) :: MF (fun k : Int => I k) (fun x : Int => I x) r9 (mupd (mupd (mupd (mzero : Int → Option Int) 1 1) 2 2) 3 3) :: Bx b5 45 [I a1.1, .string a1.2.1, .string a1.2.2.1, I a1.2.2.2] :: Bx b0_ 88 [u0_0, .map (some r12), h0_2] :: SS 66 95 2 cTis h0_2 hs15 (y14) :: L)) (listed' := #[true, true, true, true, true, true, false, false, true, true, true, true, true, true, true, false, false]) (by kernel_rfl) (by kernel_rfl) ?_
              exact TA.jump hSq38_5 (bq38_11_1, bq38_12_1, bq38_13_1) rfl (by kernel_rfl) ⟨rfl, rfl, rfl, rfl, rfl, rfl, rfl, rfl, rfl, rfl, rfl, rfl, rfl, trivial⟩ (fun _ s => Sat.by [7, 7, 7, 7, 7, 7, 7, 7] 8 0 (by kernel_rfl) s)
          refine TA.lem (γ := Nat) 5 #[true, true, true, true, true, true, true, true, true, true, true, false, true, false, false, false, false] (fun bq38_12_1 => [(0, .pointer (some ⟨b0_, 0, none⟩)), (3, .pointer (some ⟨b5, 0, none⟩)), (4, .string r6), (6, I (((mupd (mupd (mupd (mzero : Int → Option Int) 1 1) 2 2) 3 3) a1.1).getD 0)), (7, I x16), (9, .pointer (some ⟨bq38_12_1, 0, none⟩)), (27, I (a0.2.length : Int)), (28, I x16), (34, .agg #[I x16, I 4, .string a1.2.1]), (38, .agg #[I x16, I 5, .string a1.2.1]), (41, .agg #[I x16, I 5, .string r6])]) (fun bq38_12_1 => (Bx bq38_12_1 93 [I 0, I 0, .string ByteArray.empty] :: MF (fun k : Int × Int × ByteArray => .agg #[I k.1, I k.2.1, .string k.2.2]) (fun x : Bool => .bool x) r12 (y13) :: MF (fun k : Int => I k) (fun x : Int => I x) r9 (mupd (mupd (mupd (mzero : Int → Option Int) 1 1) 2 2) 3 3) :: Bx b5 45 [I a1.1, .string a1.2.1, .string a1.2.2.1, I a1.2.2.2] :: Bx b0_ 88 [u0_0, .map (some r12), h0_2] :: SS 66 95 2 cTis h0_2 hs15 (y14) :: L)) ?_ fun hSq38_10 => ?_
          · intro bq38_12_1
            refine TA.all2 (i := 11) (j := 13) (by kernel_rfl) ?_ ?_
            · refine TB.of rfl ?_
              refine TO.alloc kinfo_93_bind_zero_some_agg_I_0_I_0_string_ByteArray_empty rfl rfl fun bq38_11_1 => ?_
              refine TA.back (.inr (fun _ s => Sat.by [6, 6, 6, 6, 6] 5 2 (by kernel_rfl) s)) ?_
              refine TA.asL (L' := (Bx bq38_11_1 93 [I 0, I 0, .string ByteArray.empty] :: Bx bq38_12_1 93 [I 0, I 0, .string ByteArray.empty] :: MF (fun k : Int × Int × ByteArray => .agg #[I k.1, I k.2.1, .string k.2.2]) (fun x : Bool => .bool x) r12 (y13) :: MF (fun k : Int => I k) (fun x : Int => I x) r9 (mupd (mupd (mupd (mzero : Int → Option Int) 1 1) 2 2) 3 3) :: Bx b5 45 [I a1.1, .string a1.2.1, .string a1.2.2.1, I a1.2.2.2] :: Bx b0_ 88 [u0_0, .map (some r12), h0_2] :: SS 66 95 2 cTis h0_2 hs15 (y14) :: L)) (listed' := #[true, true, true, true, true, true, true, true, true, true, true, true, true, false, false, false, false]) (by kernel_rfl) (by kernel_rfl) ?_
              exact TA.jump hSq38_7 (bq38_11_1, bq38_12_1) rfl (by kernel_rfl) ⟨rfl, rfl, rfl, rfl, rfl, rfl, rfl, rfl, rfl, rfl, rfl, rfl, trivial⟩ (fun _ s => Sat.by [6, 6, 6, 6, 6, 6, 6] 7 0 (by kernel_rfl) s)
            · refine TB.of rfl ?_
              refine TO.alloc kinfo_93_bind_zero_some_agg_I_0_I_0_string_ByteArray_empty rfl rfl fun bq38_13_1 => ?_
              refine TA.back (.inr (fun _ s => Sat.by [6, 6, 6, 6, 6] 5 2 (by kernel_rfl) s)) ?_
              refine TA.asL (L' := (Bx bq38_13_1 93 [I 0, I 0, .string ByteArray.empty] :: Bx bq38_12_1 93 [I 0, I 0, .string ByteArray.empty] :: MF (fun k : Int × Int × ByteArray => .agg #[I k.1, I k.2.1, .string k.2.2]) (fun x : Bool => .bool x) r12 (y13) :: MF (fun k : Int => I k) (fun x : Int => I x) r9 (mupd (mupd (mupd (mzero : Int → Option Int) 1 1) 2 2) 3 3) :: Bx b5 45 [I a1.1, .string a1.2.1, .string a1.2.2.1, I a1.2.2.2] :: Bx b0_ 88 [u0_0, .map (some r12), h0_2] :: SS 66 95 2 cTis h0_2 hs15 (y14) :: L)) (listed' := #[true, true, true, true, true, true, true, true, true, true, true, false, true, true, false, false, false]) (by kernel_rfl) (by kernel_rfl) ?_
              exact TA.jump hSq38_4 (bq38_12_1, bq38_13_1) rfl (by kernel_rfl) ⟨rfl, rfl, rfl, rfl, rfl, rfl, rfl, rfl, rfl, rfl, rfl, rfl, trivial⟩ (fun _ s => Sat.by [6, 6, 6, 6, 6, 5, 6] 7 0 (by kernel_rfl) s)
          refine TA.lem (γ := Nat) 5 #[true, true, true, true, true, true, true, true, true, true, true, true, false, false, false, false, false] (fun bq38_11_1 => [(0, .pointer (some ⟨b0_, 0, none⟩)), (3, .pointer (some ⟨b5, 0, none⟩)), (4, .string r6), (6, I (((mupd (mupd (mupd (mzero : Int → Option Int) 1 1) 2 2) 3 3) a1.1).getD 0)), (7, I x16), (8, .pointer (some ⟨bq38_11_1, 0, none⟩)), (27, I (a0.2.length : Int)), (28, I x16), (34, .agg #[I x16, I 4, .string a1.2.1]), (38, .agg #[I x16, I 5, .string a1.2.1]), (41, .agg #[I x16, I 5, .string r6])]) (fun bq38_11_1 => (Bx bq38_11_1 93 [I 0, I 0, .string ByteArray.empty] :: MF (fun k : Int × Int × ByteArray => .agg #[I k.1, I k.2.1, .string k.2.2]) (fun x : Bool => .bool x) r12 (y13) :: MF (fun k : Int => I k) (fun x : Int => I x) r9 (mupd (mupd (mupd (mzero : Int → Option Int) 1 1) 2 2) 3 3) :: Bx b5 45 [I a1.1, .string a1.2.1, .string a1.2.2.1, I a1.2.2.2] :: Bx b0_ 88 [u0_0, .map (some r12), h0_2] :: SS 66 95 2 cTis h0_2 hs15 (y14) :: L)) ?_ fun hSq38_11 => ?_
          · intro bq38_11_1
            refine TA.all2 (i := 12) (j := 13) (by kernel_rfl) ?_ ?_
            · refine TB.of rfl ?_
              refine TO.alloc kinfo_93_bind_zero_some_agg_I_0_I_0_string_ByteArray_empty rfl rfl fun bq38_12_1 => ?_
              refine TA.back (.inr (fun _ s => Sat.by [6, 6, 6, 6, 6] 5 2 (by kernel_rfl) s)) ?_
              refine TA.asL (L' := (Bx bq38_12_1 93 [I 0, I 0, .string ByteArray.empty] :: Bx bq38_11_1 93 [I 0, I 0, .string ByteArray.empty] :: MF (fun k : Int × Int × ByteArray => .agg #[I k.1, I k.2.1, .string k.2.2]) (fun x : Bool => .bool x) r12 (y13) :: MF (fun k : Int => I k) (fun x : Int => I x) r9 (mupd (mupd (mupd (mzero : Int → Option Int) 1 1) 2 2) 3 3) :: Bx b5 45 [I a1.1, .string a1.2.1, .string a1.2.2.1, I a1.2.2.2] :: Bx b0_ 88 [u0_0, .map (some r12), h0_2] :: SS 66 95 2 cTis h0_2 hs15 (y14) :: L)) (listed' := #[true, true, true, true, true, true, true, true, true, true, true, true, true, false, false, false, false]) (by kernel_rfl) (by kernel_rfl) ?_
              exact TA.jump hSq38_7 (bq38_11_1, bq38_12_1) rfl (by kernel_rfl) ⟨rfl, rfl, rfl, rfl, rfl, rfl, rfl, rfl, rfl, rfl, rfl, rfl, trivial⟩ (fun _ s => Sat.by [6, 6, 6, 6, 6, 5, 6] 7 0 (by kernel_rfl) s)
            · refine TB.of rfl ?_
              refine TO.alloc kinfo_93_bind_zero_some_agg_I_0_I_0_string_ByteArray_empty rfl rfl fun bq38_13_1 => ?_
              refine TA.back (.inr (fun _ s => Sat.by [6, 6, 6, 6, 6] 5 2 (by kernel_rfl) s)) ?_
              refine TA.asL (L' := (Bx bq38_13_1 93 [I 0, I 0, .string ByteArray.empty] :: Bx bq38_11_1 93 [I 0, I 0, .string ByteArray.empty] :: MF (fun k : Int × Int × ByteArray => .agg #[I k.1, I k.2.1, .string k.2.2]) (fun x : Bool => .bool x) r12 (y13) :: MF (fun k : Int => I k) (fun x : Int => I x) r9 (mupd (mupd (mupd (mzero : Int → Option Int) 1 1) 2 2) 3 3) :: Bx b5 45 [I a1.1, .string a1.2.1, .string a1.2.2.1, I a1.2.2.2] :: Bx b0_ 88 [u0_0, .map (some r12), h0_2] :: SS 66 95 2 cTis h0_2 hs15 (y14) :: L)) (listed' := #[true, true, true, true, true, true, true, true, true, true, true, true, false, true, false, false, false]) (by kernel_rfl) (by kernel_rfl) ?_
              exact TA.jump hSq38_6 (bq38_11_1, bq38_13_1) rfl (by kernel_rfl) ⟨rfl, rfl, rfl, rfl, rfl, rfl, rfl, rfl, rfl, rfl, rfl, rfl, trivial⟩ (fun _ s => Sat.by [6, 6, 6, 6, 6, 5, 6] 7 0 (by kernel_rfl) s)
          refine TA.lem (γ := Unit) 6 #[true, true, true, true, true, true, true, true, true, true, true, false, false, false, false, false, false] (fun _ => [(0, .pointer (some ⟨b0_, 0, none⟩)), (3, .pointer (some ⟨b5, 0, none⟩)), (4, .string r6), (6, I (((mupd (mupd (mupd (mzero : Int → Option Int) 1 1) 2 2) 3 3) a1.1).getD 0)), (7, I x16), (27, I (a0.2.length : Int)), (28, I x16), (34, .agg #[I x16, I 4, .string a1.2.1]), (38, .agg #[I x16, I 5, .string a1.2.1]), (41, .agg #[I x16, I 5, .string r6])]) (fun _ => (MF (fun k : Int × Int × ByteArray => .agg #[I k.1, I k.2.1, .string k.2.2]) (fun x : Bool => .bool x) r12 (y13) :: MF (fun k : Int => I k) (fun x : Int => I x) r9 (mupd (mupd (mupd (mzero : Int → Option Int) 1 1) 2 2) 3 3) :: Bx b5 45 [I a1.1, .string a1.2.1, .string a1.2.2.1, I a1.2.2.2] :: Bx b0_ 88 [u0_0, .map (some r12), h0_2] :: SS 66 95 2 cTis h0_2 hs15 (y14) :: L)) ?_ fun hSq38_12 => ?_
          · intro _
            refine TA.all3 (i := 11) (j := 12) (k := 13) (by kernel_rfl) ?_ ?_ ?_
            · refine TB.of rfl ?_
              refine TO.alloc kinfo_93_bind_zero_some_agg_I_0_I_0_string_ByteArray_empty rfl rfl fun bq38_11_1 => ?_
              refine TA.back (.inr (fun _ s => Sat.by [5, 5, 5, 5, 5] 5 1 (by kernel_rfl) s)) ?_
              refine TA.asL (L' := (Bx bq38_11_1 93 [I 0, I 0, .string ByteArray.empty] :: MF (fun k : Int × Int × ByteArray => .agg #[I k.1, I k.2.1, .string k.2.2]) (fun x : Bool => .bool x) r12 (y13) :: MF (fun k : Int => I k) (fun x : Int => I x) r9 (mupd (mupd (mupd (mzero : Int → Option Int) 1 1) 2 2) 3 3) :: Bx b5 45 [I a1.1, .string a1.2.1, .string a1.2.2.1, I a1.2.2.2] :: Bx b0_ 88 [u0_0, .map (some r12), h0_2] :: SS 66 95 2 cTis h0_2 hs15 (y14) :: L)) (listed' := #[true, true, true, true, true, true, true, true, true, true, true, true, false, false, false, false, false]) (by kernel_rfl) (by kernel_rfl) ?_
              exact TA.jump hSq38_11 bq38_11_1 rfl (by kernel_rfl) ⟨rfl, rfl, rfl, rfl, rfl, rfl, rfl, rfl, rfl, rfl, rfl, trivial⟩ (fun _ s => Sat.by [5, 5, 5, 5, 5, 5] 6 0 (by kernel_rfl) s)
            · refine TB.of rfl ?_
              refine TO.alloc kinfo_93_bind_zero_some_agg_I_0_I_0_string_ByteArray_empty rfl rfl fun bq38_12_1 => ?_
              refine TA.back (.inr (fun _ s => Sat.by [5, 5, 5, 5, 5] 5 1 (by kernel_rfl) s)) ?_
              refine TA.asL (L' := (Bx bq38_12_1 93 [I 0, I 0, .string ByteArray.empty] :: MF (fun k : Int × Int × ByteArray => .agg #[I k.1, I k.2.1, .string k.2.2]) (fun x : Bool => .bool x) r12 (y13) :: MF (fun k : Int => I k) (fun x : Int => I x) r9 (mupd (mupd (mupd (mzero : Int → Option Int) 1 1) 2 2) 3 3) :: Bx b5 45 [I a1.1, .string a1.2.1, .string a1.2.2.1, I a1.2.2.2] :: Bx b0_ 88 [u0_0, .map (some r12), h0_2] :: SS 66 95 2 cTis h0_2 hs15 (y14) :: L)) (listed' := #[true, true, true, true, true, true, true, true, true, true, true, false, true, false, false, false, false]) (by kernel_rfl) (by kernel_rfl) ?_
              exact TA.jump hSq38_10 bq38_12_1 rfl (by kernel_rfl) ⟨rfl, rfl, rfl, rfl, rfl, rfl, rfl, rfl, rfl, rfl, rfl, trivial⟩ (fun _ s => Sat.by [5, 5, 5, 5, 5, 5] 6 0 (by kernel_rfl) s)
            · refine TB.of rfl ?_
              refine TO.alloc kinfo_93_bind_zero_some_agg_I_0_I_0_string_ByteArray_empty rfl rfl fun bq38_13_1 => ?_
              refine TA.back (.inr (fun _ s => Sat.by [5, 5, 5, 5, 5] 5 1 (by kernel_rfl) s)) ?_
              refine TA.asL (L' := (Bx bq38_13_1 93 [I 0, I 0, .string ByteArray.empty] :: MF (fun k : Int × Int × ByteArray => .agg #[I k.1, I k.2.1, .string k.2.2]) (fun x : Bool => .bool x) r12 (y13) :: MF (fun k : Int => I k) (fun x : Int => I x) r9 (mupd (mupd (mupd (mzero : Int → Option Int) 1 1) 2 2) 3 3) :: Bx b5 45 [I a1.1, .string a1.2.1, .string a1.2.2.1, I a1.2.2.2] :: Bx b0_ 88 [u0_0, .map (some r12), h0_2] :: SS 66 95 2 cTis h0_2 hs15 (y14) :: L)) (listed' := #[true, true, true, true, true, true, true, true, true, true, true, false, false, true, false, false, false]) (by kernel_rfl) (by kernel_rfl) ?_
              exact TA.jump hSq38_8 bq38_13_1 rfl (by kernel_rfl) ⟨rfl, rfl, rfl, rfl, rfl, rfl, rfl, rfl, rfl, rfl, rfl, trivial⟩ (fun _ s => Sat.by [5, 5, 5, 5, 5, 5] 6 0 (by kernel_rfl) s)
          refine TA.lem (γ := Nat × Nat) 6 #[true, true, true, true, true, true, false, false, true, true, true, true, false, true, false, false, false] (fun (bq38_11_1, bq38_13_1) => [(0, .pointer (some ⟨b0_, 0, none⟩)), (3, .pointer (some ⟨b5, 0, none⟩)), (4, .string r6), (6, I (((mupd (mupd (mupd (mzero : Int → Option Int) 1 1) 2 2) 3 3) a1.1).getD 0)), (7, I x16), (8, .pointer (some ⟨bq38_11_1, 0, none⟩)), (10, .pointer (some ⟨bq38_13_1, 0, none⟩)), (27, I (a0.2.length : Int)), (28, I x16), (34, .agg #[I x16, I 4, .string a1.2.1]), (35, I x16), (36, .pointer (some ⟨b5, 0 + 1, none⟩)), (41, .agg #[I x16, I 5, .string r6])]) (fun (bq38_11_1, bq38_13_1) => (Bx bq38_11_1 93 [I 0, I 0, .string ByteArray.empty] :: Bx bq38_13_1 93 [I 0, I 0, .string ByteArray.empty] :: MF (fun k : Int × Int × ByteArray => .agg #[I k.1, I k.2.1, .string k.2.2]) (fun x : Bool => .bool x) r12 (y13) :: MF (fun k : Int => I k) (fun x : Int => I x) r9 (mupd (mupd (mupd (mzero : Int → Option Int) 1 1) 2 2) 3 3) :: Bx b5 45 [I a1.1, .string a1.2.1, .string a1.2.2.1, I a1.2.2.2] :: Bx b0_ 88 [u0_0, .map (some r12), h0_2] :: SS 66 95 2 cTis h0_2 hs15 (y14) :: L)) ?_ fun hSq38_13 => ?_
          · rintro ⟨bq38_11_1, bq38_13_1⟩
            refine TA.all2 (i := 6) (j := 12) (by kernel_rfl) ?_ ?_
            · refine TB.of rfl ?_
              refine TO.s rfl rfl rfl (StepS.ldB rfl (Ent.at 4 rfl) kscalB_9_true rfl) ?_
              refine TA.back (.inr (fun _ s => Sat.by [6, 6, 6, 6, 6] 5 2 (by kernel_rfl) s)) ?_
              refine TA.asL (L' := (Bx bq38_11_1 93 [I 0, I 0, .string ByteArray.empty] :: Bx bq38_13_1 93 [I 0, I 0, .string ByteArray.empty] :: MF (fun k : Int × Int × ByteArray => .agg #[I k.1, I k.2.1, .string k.2.2]) (fun x : Bool => .bool x) r12 (y13) :: MF (fun k : Int => I k) (fun x : Int => I x) r9 (mupd (mupd (mupd (mzero : Int → Option Int) 1 1) 2 2) 3 3) :: Bx b5 45 [I a1.1, .string a1.2.1, .string a1.2.2.1, I a1.2.2.2] :: Bx b0_ 88 [u0_0, .map (some r12), h0_2] :: SS 66 95 2 cTis h0_2 hs15 (y14) :: L)) (listed' := #[true, true, true, true, true, true, true, false, true, true, true, true, false, true, false, false, false]) (by kernel_rfl) (by kernel_rfl) ?_
              refine TA.takeW 7 rfl rfl rfl rfl (StepS.build (cs := [I x16, I 5, .string a1.2.1]) rfl (by kernel_rfl)) (by kernel_rfl) (by kernel_rfl) (by kernel_rfl) rfl (.inr (fun _ s => Sat.by [6, 6, 6, 6, 6] 5 2 (by kernel_rfl) s)) ?_
              exact TA.jump hSq38_6 (bq38_11_1, bq38_13_1) rfl (by kernel_rfl) ⟨rfl, rfl, rfl, rfl, rfl, rfl, rfl, rfl, rfl, rfl, rfl, rfl, trivial⟩ (fun _ s => Sat.by [6, 6, 6, 6, 6, 6, 6] 7 0 (by kernel_rfl) s)
            · refine TB.of rfl ?_
              refine TO.alloc kinfo_93_bind_zero_some_agg_I_0_I_0_string_ByteArray_empty rfl rfl fun bq38_12_1 => ?_
              refine TA.back (.inr (fun _ s => Sat.by [7, 7, 7, 7, 7] 5 3 (by kernel_rfl) s)) ?_
              refine TA.asL (L' := (Bx bq38_12_1 93 [I 0, I 0, .string ByteArray.empty] :: Bx bq38_11_1 93 [I 0, I 0, .string ByteArray.empty] :: Bx bq38_13_1 93 [I 0, I 0, .string ByteArray.empty] :: MF (fun k : Int × Int × ByteArray => .agg #[I k.1, I k.2.1, .string k.2.2]) (fun x : Bool => .bool x) r12 (y13) :: MF (fun k : Int => I k) (fun x : Int => I x) r9 (mupd (mupd (mupd (mzero : Int → Option Int) 1 1) 2 2) 3 3) :: Bx b5 45 [I a1.1, .string a1.2.1, .string a1.2.2.1, I a1.2.2.2] :: Bx b0_ 88 [u0_0, .map (some r12), h0_2] :: SS 66 95 2 cTis h0_2 hs15 (y14) :: L)) (listed' := #[true, true, true, true, true, true, false, false, true, true, true, true, true, true, false, false, false]) (by kernel_rfl) (by kernel_rfl) ?_
              exact TA.jump hSq38_9 (bq38_11_1, bq38_12_1, bq38_13_1) rfl (by kernel_rfl) ⟨rfl, rfl, rfl, rfl, rfl, rfl, rfl, rfl, rfl, rfl, rfl, rfl, rfl, rfl, trivial⟩ (fun _ s => Sat.by [7, 7, 7, 7, 7, 7, 6, 7] 8 0 (by kernel_rfl) s)
          refine TA.lem (γ := Nat × Nat) 6 #[true, true, true, true, true, true, false, false, true, true, true, false, true, true, false, false, false] (fun (bq38_12_1, bq38_13_1) => [(0, .pointer (some ⟨b0_, 0, none⟩)), (3, .pointer (some ⟨b5, 0, none⟩)), (4, .string r6), (6, I (((mupd (mupd (mupd (mzero : Int → Option Int) 1 1) 2 2) 3 3) a1.1).getD 0)), (7, I x16), (9, .pointer (some ⟨bq38_12_1, 0, none⟩)), (10, .pointer (some ⟨bq38_13_1, 0, none⟩)), (27, I (a0.2.length : Int)), (28, I x16), (34, .agg #[I x16, I 4, .string a1.2.1]), (35, I x16), (36, .pointer (some ⟨b5, 0 + 1, none⟩)), (41, .agg #[I x16, I 5, .string r6])]) (fun (bq38_12_1, bq38_13_1) => (Bx bq38_12_1 93 [I 0, I 0, .string ByteArray.empty] :: Bx bq38_13_1 93 [I 0, I 0, .string ByteArray.empty] :: MF (fun k : Int × Int × ByteArray => .agg #[I k.1, I k.2.1, .string k.2.2]) (fun x : Bool => .bool x) r12 (y13) :: MF (fun k : Int => I k) (fun x : Int => I x) r9 (mupd (mupd (mupd (mzero : Int → Option Int) 1 1) 2 2) 3 3) :: Bx b5 45 [I a1.1, .string a1.2.1, .string a1.2.2.1, I a1.2.2.2] :: Bx b0_ 88 [u0_0, .map (some r12), h0_2] :: SS 66 95 2 cTis h0_2 hs15 (y14) :: L)) ?_ fun hSq38_14 => ?_
          · rintro ⟨bq38_12_1, bq38_13_1⟩
            refine TA.all2 (i := 6) (j := 11) (by kernel_rfl) ?_ ?_
            · refine TB.of rfl ?_
              refine TO.s rfl rfl rfl (StepS.ldB rfl (Ent.at 4 rfl) kscalB_9_true rfl) ?_
              refine TA.back (.inr (fun _ s => Sat.by [6, 6, 6, 6, 6] 5 2 (by kernel_rfl) s)) ?_
              refine TA.asL (L' := (Bx bq38_12_1 93 [I 0, I 0, .string ByteArray.empty] :: Bx bq38_13_1 93 [I 0, I 0, .string ByteArray.empty] :: MF (fun k : Int × Int × ByteArray => .agg #[I k.1, I k.2.1, .string k.2.2]) (fun x : Bool => .bool x) r12 (y13) :: MF (fun k : Int => I k) (fun x : Int => I x) r9 (mupd (mupd (mupd (mzero : Int → Option Int) 1 1) 2 2) 3 3) :: Bx b5 45 [I a1.1, .string a1.2.1, .string a1.2.2.1, I a1.2.2.2] :: Bx b0_ 88 [u0_0, .map (some r12), h0_2] :: SS 66 95 2 cTis h0_2 hs15 (y14) :: L)) (listed' := #[true, true, true, true, true, true, true, false, true, true, true, false, true, true, false, false, false]) (by kernel_rfl) (by kernel_rfl) ?_
              refine TA.takeW 7 rfl rfl rfl rfl (StepS.build (cs := [I x16, I 5, .string a1.2.1]) rfl (by kernel_rfl)) (by kernel_rfl) (by kernel_rfl) (by kernel_rfl) rfl (.inr (fun _ s => Sat.by [6, 6, 6, 6, 6] 5 2 (by kernel_rfl) s)) ?_
              exact TA.jump hSq38_4 (bq38_12_1, bq38_13_1) rfl (by kernel_rfl) ⟨rfl, rfl, rfl, rfl, rfl, rfl, rfl, rfl, rfl, rfl, rfl, rfl, trivial⟩ (fun _ s => Sat.by [6, 6, 6, 6, 6, 6, 6] 7 0 (by kernel_rfl) s)
            · refine TB.of rfl ?_
              refine TO.alloc kinfo_93_bind_zero_some_agg_I_0_I_0_string_ByteArray_empty rfl rfl fun bq38_11_1 => ?_
              refine TA.back (.inr (fun _ s => Sat.by [7, 7, 7, 7, 7] 5 3 (by kernel_rfl) s)) ?_
              refine TA.asL (L' := (Bx bq38_11_1 93 [I 0, I 0, .string ByteArray.empty] :: Bx bq38_12_1 93 [I 0, I 0, .string ByteArray.empty] :: Bx bq38_13_1 93 [I 0, I 0, .string ByteArray.empty] :: MF (fun k : Int × Int × ByteArray => .agg #[I k.1, I k.2.1, .string k.2.2]) (fun x : Bool => .bool x) r12 (y13) :: MF (fun k : Int => I k) (fun x : Int => I x) r9 (mupd (mupd (mupd (mzero : Int → Option Int) 1 1) 2 2) 3 3) :: Bx b5 45 [I a1.1, .string a1.2.1, .string a1.2.2.1, I a1.2.2.2] :: Bx b0_ 88 [u0_0, .map (some r12), h0_2] :: SS 66 95 2 cTis h0_2 hs15 (y14) :: L)) (listed' := #[true, true, true, true, true, true, false, false, true, true, true, true, true, true, false, false, false]) (by kernel_rfl) (by kernel_rfl) ?_
              exact TA.jump hSq38_9 (bq38_11_1, bq38_12_1, bq38_13_1) rfl (by kernel_rfl) ⟨rfl, rfl, rfl, rfl, rfl, rfl, rfl, rfl, rfl, rfl, rfl, rfl, rfl, rfl, trivial⟩ (fun _ s => Sat.by [7, 7, 7, 7, 7, 7, 7, 7] 8 0 (by kernel_rfl) s)
          refine TA.lem (γ := Nat × Nat) 6 #[true, true, true, true, true, true, false, false, true, true, true, true, true, false, false, false, false] (fun (bq38_11_1, bq38_12_1) => [(0, .pointer (some ⟨b0_, 0, none⟩)), (3, .pointer (some ⟨b5, 0, none⟩)), (4, .string r6), (6, I (((mupd (mupd (mupd (mzero : Int → Option Int) 1 1) 2 2) 3 3) a1.1).getD 0)), (7, I x16), (8, .pointer (some ⟨bq38_11_1, 0, none⟩)), (9, .pointer (some ⟨bq38_12_1, 0, none⟩)), (27, I (a0.2.length : Int)), (28, I x16), (34, .agg #[I x16, I 4, .string a1.2.1]), (35, I x16), (36, .pointer (some ⟨b5, 0 + 1, none⟩)), (41, .agg #[I x16, I 5, .string r6])]) (fun (bq38_11_1, bq38_12_1) => (Bx bq38_11_1 93 [I 0, I 0, .string ByteArray.empty] :: Bx bq38_12_1 93 [I 0, I 0, .string ByteArray.empty] :: MF (fun k : Int × Int × ByteArray => .agg #[I k.1, I k.2.1, .string k.2.2]) (fun x : Bool => .bool x) r12 (y13) :: MF (fun k : Int => I k) (fun x : Int => I x) r9 (mupd (mupd (mupd (mzero : Int → Option Int) 1 1) 2 2) 3 3) :: Bx b5 45 [I a1.1, .string a1.2.1, .string a1.2.2.1, I a1.2.2.2] :: Bx b0_ 88 [u0_0, .map (some r12), h0_2] :: SS 66 95 2 cTis h0_2 hs15 (y14) :: L)) ?_ fun hSq38_15 => ?_
          · rintro ⟨bq38_11_1, bq38_12_1⟩
            refine TA.all2 (i := 6) (j := 13) (by kernel_rfl) ?_ ?_
            · refine TB.of rfl ?_
              refine TO.s rfl rfl rfl (StepS.ldB rfl (Ent.at 4 rfl) kscalB_9_true rfl) ?_
              refine TA.back (.inr (fun _ s => Sat.by [6, 6, 6, 6, 6] 5 2 (by kernel_rfl) s)) ?_
              refine TA.asL (L' := (Bx bq38_11_1 93 [I 0, I 0, .string ByteArray.empty] :: Bx bq38_12_1 93 [I 0, I 0, .string ByteArray.empty] :: MF (fun k : Int × Int × ByteArray => .agg #[I k.1, I k.2.1, .string k.2.2]) (fun x : Bool => .bool x) r12 (y13) :: MF (fun k : Int => I k) (fun x : Int => I x) r9 (mupd (mupd (mupd (mzero : Int → Option Int) 1 1) 2 2) 3 3) :: Bx b5 45 [I a1.1, .string a1.2.1, .string a1.2.2.1, I a1.2.2.2] :: Bx b0_ 88 [u0_0, .map (some r12), h0_2] :: SS 66 95 2 cTis h0_2 hs15 (y14) :: L)) (listed' := #[true, true, true, true, true, true, true, false, true, true, true, true, true, false, false, false, false]) (by kernel_rfl) (by kernel_rfl) ?_
              refine TA.takeW 7 rfl rfl rfl rfl (StepS.build (cs := [I x16, I 5, .string a1.2.1]) rfl (by kernel_rfl)) (by kernel_rfl) (by kernel_rfl) (by kernel_rfl) rfl (.inr (fun _ s => Sat.by [6, 6, 6, 6, 6] 5 2 (by kernel_rfl) s)) ?_
              exact TA.jump hSq38_7 (bq38_11_1, bq38_12_1) rfl (by kernel_rfl) ⟨rfl, rfl, rfl, rfl, rfl, rfl, rfl, rfl, rfl, rfl, rfl, rfl, trivial⟩ (fun _ s => Sat.by [6, 6, 6, 6, 6, 6, 6] 7 0 (by kernel_rfl) s)
            · refine TB.of rfl ?_
              refine TO.alloc kinfo_93_bind_zero_some_agg_I_0_I_0_string_ByteArray_empty rfl rfl fun bq38_13_1 => ?_
              refine TA.back (.inr (fun _ s => Sat.by [7, 7, 7, 7, 7] 5 3 (by kernel_rfl) s)) ?_
              refine TA.asL (L' := (Bx bq38_13_1 93 [I 0, I 0, .string ByteArray.empty] :: Bx bq38_11_1 93 [I 0, I 0, .string ByteArray.empty] :: Bx bq38_12_1 93 [I 0, I 0, .string ByteArray.empty] :: MF (fun k : Int × Int × ByteArray => .agg #[I k.1, I k.2.1, .string k.2.2]) (fun x : Bool => .bool x) r12 (y13) :: MF (fun k : Int => I k) (fun x : Int => I x) r9 (mupd (mupd (mupd (mzero : Int → Option Int) 1 1) 2 2) 3 3) :: Bx b5 45 [I a1.1, .string a1.2.1, .string a1.2.2.1, I a1.2.2.2] :: Bx b0_ 88 [u0_0, .map (some r12), h0_2] :: SS 66 95 2 cTis h0_2 hs15 (y14) :: L)) (listed' := #[true, true, true, true, true, true, false, false, true, true, true, true, true, true, false, false, false]) (by kernel_rfl) (by kernel_rfl) ?_
              exact TA.jump hSq38_9 (bq38_11_1, bq38_12_1, bq38_13_1) rfl (by kernel_rfl) ⟨rfl, rfl, rfl, rfl, rfl, rfl, rfl, rfl, rfl, rfl, rfl, rfl, rfl, rfl, trivial⟩ (fun _ s => Sat.by [7, 7, 7, 7, 7, 5, 7, 7] 8 0 (by kernel_rfl) s)
          refine TA.lem (γ := Nat) 7 #[true, true, true, true, true, true, false, false, true, true, true, true, false, false, false, false, false] (fun bq38_11_1 => [(0, .pointer (some ⟨b0_, 0, none⟩)), (3, .pointer (some ⟨b5, 0, none⟩)), (4, .string r6), (6, I (((mupd (mupd (mupd (mzero : Int → Option Int) 1 1) 2 2) 3 3) a1.1).getD 0)), (7, I x16), (8, .pointer (some ⟨bq38_11_1, 0, none⟩)), (27, I (a0.2.length : Int)), (28, I x16), (34, .agg #[I x16, I 4, .string a1.2.1]), (35, I x16), (36, .pointer (some ⟨b5, 0 + 1, none⟩)), (41, .agg #[I x16, I 5, .string r6])]) (fun bq38_11_1 => (Bx bq38_11_1 93 [I 0, I 0, .string ByteArray.empty] :: MF (fun k : Int × Int × ByteArray => .agg #[I k.1, I k.2.1, .string k.2.2]) (fun x : Bool => .bool x) r12 (y13) :: MF (fun k : Int => I k) (fun x : Int => I x) r9 (mupd (mupd (mupd (mzero : Int → Option Int) 1 1) 2 2) 3 3) :: Bx b5 45 [I a1.1, .string a1.2.1, .string a1.2.2.1, I a1.2.2.2] :: Bx b0_ 88 [u0_0, .map (some r12), h0_2] :: SS 66 95 2 cTis h0_2 hs15 (y14) :: L)) ?_ fun hSq38_16 => ?_
          · intro bq38_11_1
            refine TA.all3 (i := 6) (j := 12) (k := 13) (by kernel_rfl) ?_ ?_ ?_
            · refine TB.of rfl ?_
              refine TO.s rfl rfl rfl (StepS.ldB rfl (Ent.at 3 rfl) kscalB_9_true rfl) ?_
              refine TA.back (.inr (fun _ s => Sat.by [5, 5, 5, 5, 5] 5 1 (by kernel_rfl) s)) ?_
              refine TA.asL (L' := (Bx bq38_11_1 93 [I 0, I 0, .string ByteArray.empty] :: MF (fun k : Int × Int × ByteArray => .agg #[I k.1, I k.2.1, .string k.2.2]) (fun x : Bool => .bool x) r12 (y13) :: MF (fun k : Int => I k) (fun x : Int => I x) r9 (mupd (mupd (mupd (mzero : Int → Option Int) 1 1) 2 2) 3 3) :: Bx b5 45 [I a1.1, .string a1.2.1, .string a1.2.2.1, I a1.2.2.2] :: Bx b0_ 88 [u0_0, .map (some r12), h0_2] :: SS 66 95 2 cTis h0_2 hs15 (y14) :: L)) (listed' := #[true, true, true, true, true, true, true, false, true, true, true, true, false, false, false, false, false]) (by kernel_rfl) (by kernel_rfl) ?_
              refine TA.takeW 7 rfl rfl rfl rfl (StepS.build (cs := [I x16, I 5, .string a1.2.1]) rfl (by kernel_rfl)) (by kernel_rfl) (by kernel_rfl) (by kernel_rfl) rfl (.inr (fun _ s => Sat.by [5, 5, 5, 5, 5] 5 1 (by kernel_rfl) s)) ?_
              exact TA.jump hSq38_11 bq38_11_1 rfl (by kernel_rfl) ⟨rfl, rfl, rfl, rfl, rfl, rfl, rfl, rfl, rfl, rfl, rfl, trivial⟩ (fun _ s => Sat.by [5, 5, 5, 5, 5, 5] 6 0 (by kernel_rfl) s)
            · refine TB.of rfl ?_
              refine TO.alloc kinfo_93_bind_zero_some_agg_I_0_I_0_string_ByteArray_empty rfl rfl fun bq38_12_1 => ?_
              refine TA.back (.inr (fun _ s => Sat.by [6, 6, 6, 6, 6] 5 2 (by kernel_rfl) s)) ?_
              refine TA.asL (L' := (Bx bq38_12_1 93 [I 0, I 0, .string ByteArray.empty] :: Bx bq38_11_1 93 [I 0, I 0, .string ByteArray.empty] :: MF (fun k : Int × Int × ByteArray => .agg #[I k.1, I k.2.1, .string k.2.2]) (fun x : Bool => .bool x) r12 (y13) :: MF (fun k : Int => I k) (fun x : Int => I x) r9 (mupd (mupd (mupd (mzero : Int → Option Int) 1 1) 2 2) 3 3) :: Bx b5 45 [I a1.1, .string a1.2.1, .string a1.2.2.1, I a1.2.2.2] :: Bx b0_ 88 [u0_0, .map (some r12), h0_2] :: SS 66 95 2 cTis h0_2 hs15 (y14) :: L)) (listed' := #[true, true, true, true, true, true, false, false, true, true, true, true, true, false, false, false, false]) (by kernel_rfl) (by kernel_rfl) ?_
              exact TA.jump hSq38_15 (bq38_11_1, bq38_12_1) rfl (by kernel_rfl) ⟨rfl, rfl, rfl, rfl, rfl, rfl, rfl, rfl, rfl, rfl, rfl, rfl, rfl, trivial⟩ (fun _ s => Sat.by [6, 6, 6, 6, 6, 5, 6] 7 0 (by kernel_rfl) s)
            · refine TB.of rfl ?_
              refine TO.alloc kinfo_93_bind_zero_some_agg_I_0_I_0_string_ByteArray_empty rfl rfl fun bq38_13_1 => ?_
              refine TA.back (.inr (fun _ s => Sat.by [6, 6, 6, 6, 6] 5 2 (by kernel_rfl) s)) ?_
              refine TA.asL (L' := (Bx bq38_13_1 93 [I 0, I 0, .string ByteArray.empty] :: Bx bq38_11_1 93 [I 0, I 0, .string ByteArray.empty] :: MF (fun k : Int × Int × ByteArray => .agg #[I k.1, I k.2.1, .string k.2.2]) (fun x : Bool => .bool x) r12 (y13) :: MF (fun k : Int => I k) (fun x : Int => I x) r9 (mupd (mupd (mupd (mzero : Int → Option Int) 1 1) 2 2) 3 3) :: Bx b5 45 [I a1.1, .string a1.2.1, .string a1.2.2.1, I a1.2.2.2] :: Bx b0_ 88 [u0_0, .map (some r12), h0_2] :: SS 66 95 2 cTis h0_2 hs15 (y14) :: L)) (listed' := #[true, true, true, true, true, true, false, false, true, true, true, true, false, true, false, false, false]) (by kernel_rfl) (by kernel_rfl) ?_
              exact TA.jump hSq38_13 (bq38_11_1, bq38_13_1) rfl (by kernel_rfl) ⟨rfl, rfl, rfl, rfl, rfl, rfl, rfl, rfl, rfl, rfl, rfl, rfl, rfl, trivial⟩ (fun _ s => Sat.by [6, 6, 6, 6, 6, 5, 6] 7 0 (by kernel_rfl) s)
          refine TA.lem (γ := Nat) 7 #[true, true, true, true, true, true, false, false, true, true, true, false, true, false, false, false, false] (fun bq38_12_1 => [(0, .pointer (some ⟨b0_, 0, none⟩)), (3, .pointer (some ⟨b5, 0, none⟩)), (4, .string r6), (6, I (((mupd (mupd (mupd (mzero : Int → Option Int) 1 1) 2 2) 3 3) a1.1).getD 0)), (7, I x16), (9, .pointer (some ⟨bq38_12_1, 0, none⟩)), (27, I (a0.2.length : Int)), (28, I x16), (34, .agg #[I x16, I 4, .string a1.2.1]), (35, I x16), (36, .pointer (some ⟨b5, 0 + 1, none⟩)), (41, .agg #[I x16, I 5, .string r6])]) (fun bq38_12_1 => (Bx bq38_12_1 93 [I 0, I 0, .string ByteArray.empty] :: MF (fun k : Int × Int × ByteArray => .agg #[I k.1, I k.2.1, .string k.2.2]) (fun x : Bool => .bool x) r12 (y13) :: MF (fun k : Int => I k) (fun x : Int => I x) r9 (mupd (mupd (mupd (mzero : Int → Option Int) 1 1) 2 2) 3 3) :: Bx b5 45 [I a1.1, .string a1.2.1, .string a1.2.2.1, I a1.2.2.2] :: Bx b0_ 88 [u0_0, .map (some r12), h0_2] :: SS 66 95 2 cTis h0_2 hs15 (y14) :: L)) ?_ fun hSq38_17 => ?_
          · intro bq38_12_1
            refine TA.all3 (i := 6) (j := 11) (k := 13) (by kernel_rfl) ?_ ?_ ?_
            · refine TB.of rfl ?_
              refine TO.s rfl rfl rfl (StepS.ldB rfl (Ent.at 3 rfl) kscalB_9_true rfl) ?_
              refine TA.back (.inr (fun _ s => Sat.by [5, 5, 5, 5, 5] 5 1 (by kernel_rfl) s)) ?_
              refine TA.asL (L' := (Bx bq38_12_1 93 [I 0, I 0, .string ByteArray.empty] :: MF (fun k : Int × Int × ByteArray => .agg #[I k.1, I k.2.1, .string k.2.2]) (fun x : Bool => .bool x) r12 (y13) :: MF (fun k : Int => I k) (fun x : Int => I x) r9 (mupd (mupd (mupd (mzero : Int → Option Int) 1 1) 2 2) 3 3) :: Bx b5 45 [I a1.1, .string a1.2.1, .string a1.2.2.1, I a1.2.2.2] :: Bx b0_ 88 [u0_0, .map (some r12), h0_2] :: SS 66 95 2 cTis h0_2 hs15 (y14) :: L)) (listed' := #[true, true, true, true, true, true, true, false, true, true, true, false, true, false, false, false, false]) (by kernel_rfl) (by kernel_rfl) ?_
              refine TA.takeW 7 rfl rfl rfl rfl (StepS.build (cs := [I x16, I 5, .string a1.2.1]) rfl (by kernel_rfl)) (by kernel_rfl) (by kernel_rfl) (by kernel_rfl) rfl (.inr (fun _ s => Sat.by [5, 5, 5, 5, 5] 5 1 (by kernel_rfl) s)) ?_
              exact TA.jump hSq38_10 bq38_12_1 rfl (by kernel_rfl) ⟨rfl, rfl, rfl, rfl, rfl, rfl, rfl, rfl, rfl, rfl, rfl, trivial⟩ (fun _ s => Sat.by [5, 5, 5, 5, 5, 5] 6 0 (by kernel_rfl) s)
            · refine TB.of rfl ?_
              refine TO.alloc kinfo_93_bind_zero_some_agg_I_0_I_0_string_ByteArray_empty rfl rfl fun bq38_11_1 => ?_
              refine TA.back (.inr (fun _ s => Sat.by [6, 6, 6, 6, 6] 5 2 (by kernel_rfl) s)) ?_
              refine TA.asL (L' := (Bx bq38_11_1 93 [I 0, I 0, .string ByteArray.empty] :: Bx bq38_12_1 93 [I 0, I 0, .string ByteArray.empty] :: MF (fun k : Int × Int × ByteArray => .agg #[I k.1, I k.2.1, .string k.2.2]) (fun x : Bool => .bool x) r12 (y13) :: MF (fun k : Int => I k) (fun x : Int => I x) r9 (mupd (mupd (mupd (mzero : Int → Option Int) 1 1) 2 2) 3 3) :: Bx b5 45 [I a1.1, .string a1.2.1, .string a1.2.2.1, I a1.2.2.2] :: Bx b0_ 88 [u0_0, .map (some r12), h0_2] :: SS 66 95 2 cTis h0_2 hs15 (y14) :: L)) (listed' := #[true, true, true, true, true, true, false, false, true, true, true, true, true, false, false, false, false]) (by kernel_rfl) (by kernel_rfl) ?_
              exact TA.jump hSq38_15 (bq38_11_1, bq38_12_1) rfl (by kernel_rfl) ⟨rfl, rfl, rfl, rfl, rfl, rfl, rfl, rfl, rfl, rfl, rfl, rfl, rfl, trivial⟩ (fun _ s => Sat.by [6, 6, 6, 6, 6, 6, 6] 7 0 (by kernel_rfl) s)
            · refine TB.of rfl ?_
              refine TO.alloc kinfo_93_bind_zero_some_agg_I_0_I_0_string_ByteArray_empty rfl rfl fun bq38_13_1 => ?_
              refine TA.back (.inr (fun _ s => Sat.by [6, 6, 6, 6, 6] 5 2 (by kernel_rfl) s)) ?_
              refine TA.asL (L' := (Bx bq38_13_1 93 [I 0, I 0, .string ByteArray.empty] :: Bx bq38_12_1 93 [I 0, I 0, .string ByteArray.empty] :: MF (fun k : Int × Int × ByteArray => .agg #[I k.1, I k.2.1, .string k.2.2]) (fun x : Bool => .bool x) r12 (y13) :: MF (fun k : Int => I k) (fun x : Int => I x) r9 (mupd (mupd (mupd (mzero : Int → Option Int) 1 1) 2 2) 3 3) :: Bx b5 45 [I a1.1, .string a1.2.1, .string a1.2.2.1, I a1.2.2.2] :: Bx b0_ 88 [u0_0, .map (some r12), h0_2] :: SS 66 95 2 cTis h0_2 hs15 (y14) :: L)) (listed' := #[true, true, true, true, true, true, false, false, true, true, true, false, true, true, false, false, false]) (by kernel_rfl) (by kernel_rfl) ?_
              exact TA.jump hSq38_14 (bq38_12_1, bq38_13_1) rfl (by kernel_rfl) ⟨rfl, rfl, rfl, rfl, rfl, rfl, rfl, rfl, rfl, rfl, rfl, rfl, rfl, trivial⟩ (fun _ s => Sat.by [6, 6, 6, 6, 6, 5, 6] 7 0 (by kernel_rfl) s)
          refine TA.lem (γ := Nat) 7 #[true, true, true, true, true, true, false, false, true, true, true, false, false, true, false, false, false] (fun bq38_13_1 => [(0, .pointer (some ⟨b0_, 0, none⟩)), (3, .pointer (some ⟨b5, 0, none⟩)), (4, .string r6), (6, I (((mupd (mupd (mupd (mzero : Int → Option Int) 1 1) 2 2) 3 3) a1.1).getD 0)), (7, I x16), (10, .pointer (some ⟨bq38_13_1, 0, none⟩)), (27, I (a0.2.length : Int)), (28, I x16), (34, .agg #[I x16, I 4, .string a1.2.1]), (35, I x16), (36, .pointer (some ⟨b5, 0 + 1, none⟩)), (41, .agg #[I x16, I 5, .string r6])]) (fun bq38_13_1 => (Bx bq38_13_1 93 [I 0, I 0, .string ByteArray.empty] :: MF (fun k : Int × Int × ByteArray => .agg #[I k.1, I k.2.1, .string k.2.2]) (fun x : Bool => .bool x) r12 (y13) :: MF (fun k : Int => I k) (fun x : Int => I x) r9 (mupd (mupd (mupd (mzero : Int → Option Int) 1 1) 2 2) 3 3) :: Bx b5 45 [I a1.1, .string a1.2.1, .string a1.2.2.1, I a1.2.2.2] :: Bx b0_ 88 [u0_0, .map (some r12), h0_2] :: SS 66 95 2 cTis h0_2 hs15 (y14) :: L)) ?_ fun hSq38_18 => ?_
          · intro bq38_13_1
            refine TA.all3 (i := 6) (j := 11) (k := 12) (by kernel_rfl) ?_ ?_ ?_
            · refine TB.of rfl ?_
              refine TO.s rfl rfl rfl (StepS.ldB rfl (Ent.at 3 rfl) kscalB_9_true rfl) ?_
              refine TA.back (.inr (fun _ s => Sat.by [5, 5, 5, 5, 5] 5 1 (by kernel_rfl) s)) ?_
              refine TA.asL (L' := (Bx bq38_13_1 93 [I 0, I 0, .string ByteArray.empty] :: MF (fun k : Int × Int × ByteArray => .agg #[I k.1, I k.2.1, .string k.2.2]) (fun x : Bool => .bool x) r12 (y13) :: MF (fun k : Int => I k) (fun x : Int => I x) r9 (mupd (mupd (mupd (mzero : Int → Option Int) 1 1) 2 2) 3 3) :: Bx b5 45 [I a1.1, .string a1.2.1, .string a1.2.2.1, I a1.2.2.2] :: Bx b0_ 88 [u0_0, .map (some r12), h0_2] :: SS 66 95 2 cTis h0_2 hs15 (y14) :: L)) (listed' := #[true, true, true, true, true, true, true, false, true, true, true, false, false, true, false, false, false]) (by kernel_rfl) (by kernel_rfl) ?_
              refine TA.takeW 7 rfl rfl rfl rfl (StepS.build (cs := [I x16, I 5, .string a1.2.1]) rfl (by kernel_rfl)) (by kernel_rfl) (by kernel_rfl) (by kernel_rfl) rfl (.inr (fun _ s => Sat.by [5, 5, 5, 5, 5] 5 1 (by kernel_rfl) s)) ?_
              exact TA.jump hSq38_8 bq38_13_1 rfl (by kernel_rfl) ⟨rfl, rfl, rfl, rfl, rfl, rfl, rfl, rfl, rfl, rfl, rfl, trivial⟩ (fun _ s => Sat.by [5, 5, 5, 5, 5, 5] 6 0 (by kernel_rfl) s)
            · refine TB.of rfl ?_
              refine TO.alloc kinfo_93_bind_zero_some_agg_I_0_I_0_string_ByteArray_empty rfl rfl fun bq38_11_1 => ?_
              refine TA.back (.inr (fun _ s => Sat.by [6, 6, 6, 6, 6] 5 2 (by kernel_rfl) s)) ?_
              refine TA.asL (L' := (Bx bq38_11_1 93 [I 0, I 0, .string ByteArray.empty] :: Bx bq38_13_1 93 [I 0, I 0, .string ByteArray.empty] :: MF (fun k : Int × Int × ByteArray => .agg #[I k.1, I k.2.1, .string k.2.2]) (fun x : Bool => .bool x) r12 (y13) :: MF (fun k : Int => I k) (fun x : Int => I x) r9 (mupd (mupd (mupd (mzero : Int → Option Int) 1 1) 2 2) 3 3) :: Bx b5 45 [I a1.1, .string a1.2.1, .string a1.2.2.1, I a1.2.2.2] :: Bx b0_ 88 [u0_0, .map (some r12), h0_2] :: SS 66 95 2 cTis h0_2 hs15 (y14) :: L)) (listed' := #[true, true, true, true, true, true, false, false, true, true, true, true, false, true, false, false, false]) (by kernel_rfl) (by kernel_rfl) ?_
              exact TA.jump hSq38_13 (bq38_11_1, bq38_13_1) rfl (by kernel_rfl) ⟨rfl, rfl, rfl, rfl, rfl, rfl, rfl, rfl, rfl, rfl, rfl, rfl, rfl, trivial⟩ (fun _ s => Sat.by [6, 6, 6, 6, 6, 6, 6] 7 0 (by kernel_rfl) s)
            · refine TB.of rfl ?_
              refine TO.alloc kinfo_93_bind_zero_some_agg_I_0_I_0_string_ByteArray_empty rfl rfl fun bq38_12_1 => ?_
              refine TA.back (.inr (fun _ s => Sat.by [6, 6, 6, 6, 6] 5 2 (by kernel_rfl) s)) ?_
              refine TA.asL (L' := (Bx bq38_12_1 93 [I 0, I 0, .string ByteArray.empty] :: Bx bq38_13_1 93 [I 0, I 0, .string ByteArray.empty] :: MF (fun k : Int × Int × ByteArray => .agg #[I k.1, I k.2.1, .string k.2.2]) (fun x : Bool => .bool x) r12 (y13) :: MF (fun k : Int => I k) (fun x : Int => I x) r9 (mupd (mupd (mupd (mzero : Int → Option Int) 1 1) 2 2) 3 3) :: Bx b5 45 [I a1.1, .string a1.2.1, .string a1.2.2.1, I a1.2.2.2] :: Bx b0_ 88 [u0_0, .map (some r12), h0_2] :: SS 66 95 2 cTis h0_2 hs15 (y14) :: L)) (listed' := #[true, true, true, true, true, true, false, false, true, true, true, false, true, true, false, false, false]) (by kernel_rfl) (by kernel_rfl) ?_
              exact TA.jump hSq38_14 (bq38_12_1, bq38_13_1) rfl (by kernel_rfl) ⟨rfl, rfl, rfl, rfl, rfl, rfl, rfl, rfl, rfl, rfl, rfl, rfl, rfl, trivial⟩ (fun _ s => Sat.by [6, 6, 6, 6, 6, 6, 6] 7 0 (by kernel_rfl) s)
          refine TA.all4 (i := 6) (j := 11) (k := 12) (m := 13) (by kernel_rfl) ?_ ?_ ?_ ?_
          · refine TB.of rfl ?_
            refine TO.s rfl rfl rfl (StepS.ldB rfl (Ent.at 2 rfl) kscalB_9_true rfl) ?_
            refine TA.back (.inr (fun _ s => s)) ?_
            refine TA.asL (L' := (MF (fun k : Int × Int × ByteArray => .agg #[I k.1, I k.2.1, .string k.2.2]) (fun x : Bool => .bool x) r12 (y13) :: MF (fun k : Int => I k) (fun x : Int => I x) r9 (mupd (mupd (mupd (mzero : Int → Option Int) 1 1) 2 2) 3 3) :: Bx b5 45 [I a1.1, .string a1.2.1, .string a1.2.2.1, I a1.2.2.2] :: Bx b0_ 88 [u0_0, .map (some r12), h0_2] :: SS 66 95 2 cTis h0_2 hs15 (y14) :: L)) (listed' := #[true, true, true, true, true, true, true, false, true, true, true, false, false, false, false, false, false]) (by kernel_rfl) (by kernel_rfl) ?_
            refine TA.takeW 7 rfl rfl rfl rfl (StepS.build (cs := [I x16, I 5, .string a1.2.1]) rfl (by kernel_rfl)) (by kernel_rfl) (by kernel_rfl) (by kernel_rfl) rfl (.inr (fun _ s => s)) ?_
            exact TA.jump hSq38_12 () rfl (by kernel_rfl) ⟨rfl, rfl, rfl, rfl, rfl, rfl, rfl, rfl, rfl, rfl, trivial⟩ (fun _ s => Sat.by [4, 4, 4, 4, 4] 5 0 (by kernel_rfl) s)
          · refine TB.of rfl ?_
            refine TO.alloc kinfo_93_bind_zero_some_agg_I_0_I_0_string_ByteArray_empty rfl rfl fun bq38_11_1 => ?_
            refine TA.back (.inr (fun _ s => Sat.by [5, 5, 5, 5, 5] 5 1 (by kernel_rfl) s)) ?_
            refine TA.asL (L' := (Bx bq38_11_1 93 [I 0, I 0, .string ByteArray.empty] :: MF (fun k : Int × Int × ByteArray => .agg #[I k.1, I k.2.1, .string k.2.2]) (fun x : Bool => .bool x) r12 (y13) :: MF (fun k : Int => I k) (fun x : Int => I x) r9 (mupd (mupd (mupd (mzero : Int → Option Int) 1 1) 2 2) 3 3) :: Bx b5 45 [I a1.1, .string a1.2.1, .string a1.2.2.1, I a1.2.2.2] :: Bx b0_ 88 [u0_0, .map (some r12), h0_2] :: SS 66 95 2 cTis h0_2 hs15 (y14) :: L)) (listed' := #[true, true, true, true, true, true, false, false, true, true, true, true, false, false, false, false, false]) (by kernel_rfl) (by kernel_rfl) ?_
            exact TA.jump hSq38_16 bq38_11_1 rfl (by kernel_rfl) ⟨rfl, rfl, rfl, rfl, rfl, rfl, rfl, rfl, rfl, rfl, rfl, rfl, trivial⟩ (fun _ s => Sat.by [5, 5, 5, 5, 5, 5] 6 0 (by kernel_rfl) s)
          · refine TB.of rfl ?_
            refine TO.alloc kinfo_93_bind_zero_some_agg_I_0_I_0_string_ByteArray_empty rfl rfl fun bq38_12_1 => ?_
            refine TA.back (.inr (fun _ s => Sat.by [5, 5, 5, 5, 5] 5 1 (by kernel_rfl) s)) ?_
            refine TA.asL (L' := (Bx bq38_12_1 93 [I 0, I 0, .string ByteArray.empty] :: MF (fun k : Int × Int × ByteArray => .agg #[I k.1, I k.2.1, .string k.2.2]) (fun x : Bool => .bool x) r12 (y13) :: MF (fun k : Int => I k) (fun x : Int => I x) r9 (mupd (mupd (mupd (mzero : Int → Option Int) 1 1) 2 2) 3 3) :: Bx b5 45 [I a1.1, .string a1.2.1, .string a1.2.2.1, I a1.2.2.2] :: Bx b0_ 88 [u0_0, .map (some r12), h0_2] :: SS 66 95 2 cTis h0_2 hs15 (y14) :: L)) (listed' := #[true, true, true, true, true, true, false, false, true, true, true, false, true, false, false, false, false]) (by kernel_rfl) (by kernel_rfl) ?_
            exact TA.jump hSq38_17 bq38_12_1 rfl (by kernel_rfl) ⟨rfl, rfl, rfl, rfl, rfl, rfl, rfl, rfl, rfl, rfl, rfl, rfl, trivial⟩ (fun _ s => Sat.by [5, 5, 5, 5, 5, 5] 6 0 (by kernel_rfl) s)
          · refine TB.of rfl ?_
            refine TO.alloc kinfo_93_bind_zero_some_agg_I_0_I_0_string_ByteArray_empty rfl rfl fun bq38_13_1 => ?_
            refine TA.back (.inr (fun _ s => Sat.by [5, 5, 5, 5, 5] 5 1 (by kernel_rfl) s)) ?_
            refine TA.asL (L' := (Bx bq38_13_1 93 [I 0, I 0, .string ByteArray.empty] :: MF (fun k : Int × Int × ByteArray => .agg #[I k.1, I k.2.1, .string k.2.2]) (fun x : Bool => .bool x) r12 (y13) :: MF (fun k : Int => I k) (fun x : Int => I x) r9 (mupd (mupd (mupd (mzero : Int → Option Int) 1 1) 2 2) 3 3) :: Bx b5 45 [I a1.1, .string a1.2.1, .string a1.2.2.1, I a1.2.2.2] :: Bx b0_ 88 [u0_0, .map (some r12), h0_2] :: SS 66 95 2 cTis h0_2 hs15 (y14) :: L)) (listed' := #[true, true, true, true, true, true, false, false, true, true, true, false, false, true, false, false, false]) (by kernel_rfl) (by kernel_rfl) ?_
            exact TA.jump hSq38_18 bq38_13_1 rfl (by kernel_rfl) ⟨rfl, rfl, rfl, rfl, rfl, rfl, rfl, rfl, rfl, rfl, rfl, rfl, trivial⟩ (fun _ s => Sat.by [5, 5, 5, 5, 5, 5] 6 0 (by kernel_rfl) s)
        · intro a w ⟨bq38_13_1, bq38_12_1, bq38_11_1, he, hs⟩
          refine TC.use ?_ he hs
          refine TC.k ?_
          refine TC.region ?_
          refine TO.s rfl rfl rfl (StepS.assign rfl) ?_
          refine TO.code ?_
          refine TC.k ?_
          refine TC.k ?_
          refine TC.region ?_
          refine TO.s rfl rfl rfl (StepS.fld rfl kfieldB_45_0_0_true) ?_
          refine TO.s rfl rfl rfl (StepS.ldB rfl (Ent.at 5 rfl) kscalB_3_true rfl) ?_
          refine TO.code ?_
          obtain ⟨⟨y42, b43⟩, hj44, hj37⟩ := bind_some hj37
          first | refine TC.cutM (fun a w => ∃ r41 : Nat, Mid 85 B [(0, .pointer (some ⟨b0_, 0, none⟩)), (3, .pointer (some ⟨b5, 0, none⟩)), (4, .string r6), (6, I (((mupd (mupd (mupd (mzero : Int → Option Int) 1 1) 2 2) 3 3) a1.1).getD 0)), (7, I x16), (11, .bool b43), (27, I (a0.2.length : Int)), (28, I x16)] (MF (fun k : Int × Int × ByteArray => .agg #[I k.1, I k.2.1, .string k.2.2]) (fun x : Bool => .bool x) r41 (y42) :: Bx bq38_13_1 93 [I x16, I 5, .string r6] :: Bx bq38_12_1 93 [I x16, I 5, .string a1.2.1] :: Bx bq38_11_1 93 [I x16, I 4, .string a1.2.1] :: MF (fun k : Int => I k) (fun x : Int => I x) r9 (mupd (mupd (mupd (mzero : Int → Option Int) 1 1) 2 2) 3 3) :: Bx b5 45 [I a1.1, .string a1.2.1, .string a1.2.2.1, I a1.2.2.2] :: Bx b0_ 88 [u0_0, .map (some r41), h0_2] :: SS 66 95 2 cTis h0_2 hs15 (y14) :: L) a w) ?_ ?_ | refine TC.cutX (fun a w => ∃ r41 : Nat, Mid 85 B [(0, .pointer (some ⟨b0_, 0, none⟩)), (3, .pointer (some ⟨b5, 0, none⟩)), (4, .string r6), (6, I (((mupd (mupd (mupd (mzero : Int → Option Int) 1 1) 2 2) 3 3) a1.1).getD 0)), (7, I x16), (11, .bool b43), (27, I (a0.2.length : Int)), (28, I x16)] (MF (fun k : Int × Int × ByteArray => .agg #[I k.1, I k.2.1, .string k.2.2]) (fun x : Bool => .bool x) r41 (y42) :: Bx bq38_13_1 93 [I x16, I 5, .string r6] :: Bx bq38_12_1 93 [I x16, I 5, .string a1.2.1] :: Bx bq38_11_1 93 [I x16, I 4, .string a1.2.1] :: MF (fun k : Int => I k) (fun x : Int => I x) r9 (mupd (mupd (mupd (mzero : Int → Option Int) 1 1) 2 2) 3 3) :: Bx b5 45 [I a1.1, .string a1.2.1, .string a1.2.2.1, I a1.2.2.2] :: Bx b0_ 88 [u0_0, .map (some r41), h0_2] :: SS 66 95 2 cTis h0_2 hs15 (y14) :: L) a w) ?_ ?_
          · refine TC.block ?_
            refine TC.k ?_
            refine TC.region ?_
            refine TO.s rfl rfl rfl (StepS.cmp rfl rfl rfl) ?_
            refine TO.s rfl rfl rfl (StepS.assign rfl) ?_
            refine TO.code ?_
            refine TC.cond rfl (fun hc45 => ?_) (fun hc45 => ?_)
            · replace hj44 := cond_t hc45 hj44
              refine TC.region ?_
              refine TO.s rfl rfl rfl (StepS.move rfl) ?_
              refine TO.s rfl rfl rfl (StepS.ldBA rfl (Ent.at 2 rfl) kaggB_93_3_true rfl rfl) ?_
              refine TO.litS (f := cTiis) ([(x16, 4, a1.2.1)] : List (Int × Int × ByteArray)) kelemB_124_93_3_32_true kinfo_93_bind_zero_some_agg_I_0_I_0_string_ByteArray_empty rfl rfl (fun _ => rfl) rfl rfl (by kernel_rfl) rfl fun v46 => ?_
              refine TO.ghost (fun _ s => Sat.front 4 rfl s) ?_
              refine TO.ghost (fun _ s => Sat.front 7 rfl s) ?_
              obtain ⟨⟨r48, r49⟩, hc50, hj44⟩ := bind_some hj44
              refine TO.callO kcallB_43_true rfl rfl rfl (fun _ st => C43 (a0 := y13) (OwnS.rd (Ent.at 0 rfl)) hc50 st) ?_
              rintro _ _ ⟨r51, rfl, rfl⟩
              refine TO.s rfl rfl rfl (StepS.assign rfl) ?_
              cases hj44
              refine TO.nil fun a w e s => ?_
              exact ⟨r51, e.sub (lk_of_allIn ⟨rfl, rfl, rfl, rfl, rfl, rfl, rfl, rfl, trivial⟩), s.mono fun _ s => (by exact Sat.by [8, 1, 8, 8, 8, 8, 8, 7] 8 1 (by kernel_rfl) s)⟩
            · replace hj44 := cond_f hc45 hj44
              refine TC.k ?_
              refine TC.region ?_
              refine TO.s rfl rfl rfl (StepS.cmp rfl rfl rfl) ?_
              refine TO.s rfl rfl rfl (StepS.assign rfl) ?_
              refine TO.code ?_
              refine TC.cond rfl (fun hc53 => ?_) (fun hc53 => ?_)
              · replace hj44 := cond_t hc53 hj44
                refine TC.region ?_
                refine TO.s rfl rfl rfl (StepS.move rfl) ?_
                refine TO.s rfl rfl rfl (StepS.ldBA rfl (Ent.at 0 rfl) kaggB_93_3_true rfl rfl) ?_
                refine TO.litS (f := cTiis) ([(x16, 5, r6)] : List (Int × Int × ByteArray)) kelemB_124_93_3_32_true kinfo_93_bind_zero_some_agg_I_0_I_0_string_ByteArray_empty rfl rfl (fun _ => rfl) rfl rfl (by kernel_rfl) rfl fun v54 => ?_
                refine TO.ghost (fun _ s => Sat.front 4 rfl s) ?_
                refine TO.ghost (fun _ s => Sat.front 7 rfl s) ?_
                obtain ⟨⟨r56, r57⟩, hc58, hj44⟩ := bind_some hj44
                refine TO.callO kcallB_43_true rfl rfl rfl (fun _ st => C43 (a0 := y13) (OwnS.rd (Ent.at 0 rfl)) hc58 st) ?_
                rintro _ _ ⟨r59, rfl, rfl⟩
                refine TO.s rfl rfl rfl (StepS.assign rfl) ?_
                cases hj44
                refine TO.nil fun a w e s => ?_
                exact ⟨r59, e.sub (lk_of_allIn ⟨rfl, rfl, rfl, rfl, rfl, rfl, rfl, rfl, trivial⟩), s.mono fun _ s => (by exact Sat.by [8, 1, 8, 8, 8, 8, 8, 7] 8 1 (by kernel_rfl) s)⟩
              · replace hj44 := cond_f hc53 hj44
                refine TC.k ?_
                refine TC.region ?_
                refine TO.s rfl rfl rfl (StepS.cmp rfl rfl rfl) ?_
                refine TO.s rfl rfl rfl (StepS.assign rfl) ?_
                refine TO.code ?_
                refine TC.cond rfl (fun hc61 => ?_) (fun hc61 => ?_)
                · replace hj44 := cond_t hc61 hj44
                  refine TC.region ?_
                  refine TO.s rfl rfl rfl (StepS.move rfl) ?_
                  refine TO.s rfl rfl rfl (StepS.ldBA rfl (Ent.at 2 rfl) kaggB_93_3_true rfl rfl) ?_
                  refine TO.s rfl rfl rfl (StepS.ldBA rfl (Ent.at 1 rfl) kaggB_93_3_true rfl rfl) ?_
                  refine TO.s rfl rfl rfl (StepS.ldBA rfl (Ent.at 0 rfl) kaggB_93_3_true rfl rfl) ?_
                  refine TO.litS (f := cTiis) ([(x16, 4, a1.2.1), (x16, 5, a1.2.1), (x16, 5, r6)] : List (Int × Int × ByteArray)) kelemB_124_93_3_32_true kinfo_93_bind_zero_some_agg_I_0_I_0_string_ByteArray_empty rfl rfl (fun _ => rfl) rfl rfl (by kernel_rfl) rfl fun v62 => ?_
                  refine TO.ghost (fun _ s => Sat.front 4 rfl s) ?_
                  refine TO.ghost (fun _ s => Sat.front 7 rfl s) ?_
                  obtain ⟨⟨r64, r65⟩, hc66, hj44⟩ := bind_some hj44
                  refine TO.callO kcallB_43_true rfl rfl rfl (fun _ st => C43 (a0 := y13) (OwnS.rd (Ent.at 0 rfl)) hc66 st) ?_
                  rintro _ _ ⟨r67, rfl, rfl⟩
                  refine TO.s rfl rfl rfl (StepS.assign rfl) ?_
                  cases hj44
                  refine TO.nil fun a w e s => ?_
                  exact ⟨r67, e.sub (lk_of_allIn ⟨rfl, rfl, rfl, rfl, rfl, rfl, rfl, rfl, trivial⟩), s.mono fun _ s => (by exact Sat.by [8, 1, 8, 8, 8, 8, 8, 7] 8 1 (by kernel_rfl) s)⟩
                · replace hj44 := cond_f hc61 hj44
                  cases hj44
                  refine TC.skip fun a w e s => ?_
                  exact ⟨r12, e.sub (lk_of_allIn ⟨rfl, rfl, rfl, rfl, rfl, rfl, rfl, rfl, trivial⟩), s.mono fun _ s => (by exact Sat.by [7, 7, 7, 7, 6, 6, 6, 7] 8 0 (by kernel_rfl) s)⟩
          · intro a w ⟨r41, he, hs⟩
            refine TC.use ?_ he hs
            refine TC.k ?_
            refine TC.region ?_
            refine TO.s rfl rfl rfl (StepS.move rfl) ?_
            refine TO.code ?_
            refine TC.cond rfl (fun hc69 => ?_) (fun hc69 => ?_)
            · replace hj37 := cond_t hc69 hj37
              obtain ⟨y71, hj73, hj37⟩ := bind_some hj37
              first | refine TC.cutM (fun a w => ∃ hs72 : List Value, Mid 85 B [(0, .pointer (some ⟨b0_, 0, none⟩)), (3, .pointer (some ⟨b5, 0, none⟩)), (4, .string r6), (6, I (((mupd (mupd (mupd (mzero : Int → Option Int) 1 1) 2 2) 3 3) a1.1).getD 0)), (27, I (a0.2.length : Int)), (28, I x16)] (MF (fun k : Int × Int × ByteArray => .agg #[I k.1, I k.2.1, .string k.2.2]) (fun x : Bool => .bool x) r41 (y42) :: Bx bq38_13_1 93 [I x16, I 5, .string r6] :: Bx bq38_12_1 93 [I x16, I 5, .string a1.2.1] :: Bx bq38_11_1 93 [I x16, I 4, .string a1.2.1] :: MF (fun k : Int => I k) (fun x : Int => I x) r9 (mupd (mupd (mupd (mzero : Int → Option Int) 1 1) 2 2) 3 3) :: Bx b5 45 [I a1.1, .string a1.2.1, .string a1.2.2.1, I a1.2.2.2] :: Bx b0_ 88 [u0_0, .map (some r41), h0_2] :: SS 66 95 2 cTis h0_2 hs72 (y71) :: L) a w) ?_ ?_ | refine TC.cutX (fun a w => ∃ hs72 : List Value, Mid 85 B [(0, .pointer (some ⟨b0_, 0, none⟩)), (3, .pointer (some ⟨b5, 0, none⟩)), (4, .string r6), (6, I (((mupd (mupd (mupd (mzero : Int → Option Int) 1 1) 2 2) 3 3) a1.1).getD 0)), (27, I (a0.2.length : Int)), (28, I x16)] (MF (fun k : Int × Int × ByteArray => .agg #[I k.1, I k.2.1, .string k.2.2]) (fun x : Bool => .bool x) r41 (y42) :: Bx bq38_13_1 93 [I x16, I 5, .string r6] :: Bx bq38_12_1 93 [I x16, I 5, .string a1.2.1] :: Bx bq38_11_1 93 [I x16, I 4, .string a1.2.1] :: MF (fun k : Int => I k) (fun x : Int => I x) r9 (mupd (mupd (mupd (mzero : Int → Option Int) 1 1) 2 2) 3 3) :: Bx b5 45 [I a1.1, .string a1.2.1, .string a1.2.2.1, I a1.2.2.2] :: Bx b0_ 88 [u0_0, .map (some r41), h0_2] :: SS 66 95 2 cTis h0_2 hs72 (y71) :: L) a w) ?_ ?_
              · obtain ⟨xq70_10_1, hxq70_10_2, hj73⟩ := bind_some hj73
                obtain ⟨yq70_17_2, hkq70_17_3, hj73⟩ := bind_some hj73
                obtain ⟨xq70_18_1, hxq70_18_2, hj73⟩ := bind_some hj73
                refine TC.region_any (MF (fun k : Int × Int × ByteArray => .agg #[I k.1, I k.2.1, .string k.2.2]) (fun x : Bool => .bool x) r41 (y42) :: Bx bq38_13_1 93 [I x16, I 5, .string r6] :: Bx bq38_12_1 93 [I x16, I 5, .string a1.2.1] :: Bx bq38_11_1 93 [I x16, I 4, .string a1.2.1] :: MF (fun k : Int => I k) (fun x : Int => I x) r9 (mupd (mupd (mupd (mzero : Int → Option Int) 1 1) 2 2) 3 3) :: Bx b5 45 [I a1.1, .string a1.2.1, .string a1.2.2.1, I a1.2.2.2] :: Bx b0_ 88 [u0_0, .map (some r41), h0_2] :: L) 19 20 kfollows_mixedOrders_true rfl ?_
                refine TA.takeW 0 rfl rfl rfl rfl (StepS.move rfl) (by kernel_rfl) (by kernel_rfl) (by kernel_rfl) rfl (.inr (fun _ s => Sat.by [6, 6, 6, 6, 6, 6, 6] 7 1 (by kernel_rfl) s)) ?_
                refine TA.takeW 1 rfl rfl rfl rfl (StepS.nilc rfl) (by kernel_rfl) (by kernel_rfl) (by kernel_rfl) rfl (.inr (fun _ s => Sat.by [6, 6, 6, 6, 6, 6, 6] 7 1 (by kernel_rfl) s)) ?_
                refine TA.takeW 2 rfl rfl rfl rfl (StepS.fld rfl kfieldB_88_2_2_true) (by kernel_rfl) (by kernel_rfl) (by kernel_rfl) rfl (.inr (fun _ s => Sat.by [6, 6, 6, 6, 6, 6, 6] 7 1 (by kernel_rfl) s)) ?_
                refine TA.take 3 rfl rfl rfl rfl (StepS.ldB rfl (Ent.at 6 rfl) kscalB_60_true rfl) (by kernel_rfl) (by kernel_rfl) (by kernel_rfl) (by kernel_rfl) (by kernel_rfl) (fun _ s => Sat.by [6, 6, 6, 6, 6, 6, 6] 7 1 (by kernel_rfl) s) ?_
                refine TA.takeW 4 rfl rfl rfl rfl (StepS.move rfl) (by kernel_rfl) (by kernel_rfl) (by kernel_rfl) rfl (.inr (fun _ s => Sat.by [6, 6, 6, 6, 6, 6, 6] 7 1 (by kernel_rfl) s)) ?_
                refine TA.takeW 5 rfl rfl rfl rfl (StepS.move rfl) (by kernel_rfl) (by kernel_rfl) (by kernel_rfl) rfl (.inr (fun _ s => Sat.by [6, 6, 6, 6, 6, 6, 6] 7 1 (by kernel_rfl) s)) ?_
                refine TA.takeW 6 rfl rfl rfl rfl (StepS.nilc rfl) (by kernel_rfl) (by kernel_rfl) (by kernel_rfl) rfl (.inr (fun _ s => Sat.by [6, 6, 6, 6, 6, 6, 6] 7 1 (by kernel_rfl) s)) ?_
                refine TA.takeW 7 rfl rfl rfl rfl (StepS.fld rfl kfieldB_88_2_2_true) (by kernel_rfl) (by kernel_rfl) (by kernel_rfl) rfl (.inr (fun _ s => Sat.by [6, 6, 6, 6, 6, 6, 6] 7 1 (by kernel_rfl) s)) ?_
                refine TA.take 8 rfl rfl rfl rfl (StepS.ldB rfl (Ent.at 6 rfl) kscalB_60_true rfl) (by kernel_rfl) (by kernel_rfl) (by kernel_rfl) (by kernel_rfl) (by kernel_rfl) (fun _ s => Sat.by [6, 6, 6, 6, 6, 6, 6] 7 1 (by kernel_rfl) s) ?_
                refine TA.takeW 9 rfl rfl rfl rfl (StepS.move rfl) (by kernel_rfl) (by kernel_rfl) (by kernel_rfl) rfl (.inr (fun _ s => Sat.by [6, 6, 6, 6, 6, 6, 6] 7 1 (by kernel_rfl) s)) ?_
                refine TA.takeW 12 rfl rfl rfl rfl (StepS.move rfl) (by kernel_rfl) (by kernel_rfl) (by kernel_rfl) rfl (.inr (fun _ s => Sat.by [6, 6, 6, 6, 6, 6, 6] 7 1 (by kernel_rfl) s)) ?_
                refine TA.takeW 13 rfl rfl rfl rfl (StepS.fld rfl kfieldB_45_1_1_true) (by kernel_rfl) (by kernel_rfl) (by kernel_rfl) rfl (.inr (fun _ s => Sat.by [6, 6, 6, 6, 6, 6, 6] 7 1 (by kernel_rfl) s)) ?_
                refine TA.take 14 rfl rfl rfl rfl (StepS.ldB rfl (Ent.at 5 rfl) kscalB_9_true rfl) (by kernel_rfl) (by kernel_rfl) (by kernel_rfl) (by kernel_rfl) (by kernel_rfl) (fun _ s => Sat.by [6, 6, 6, 6, 6, 6, 6] 7 1 (by kernel_rfl) s) ?_
                refine TA.takeW 15 rfl rfl rfl rfl (StepS.build (cs := [I (((mupd (mupd (mupd (mzero : Int → Option Int) 1 1) 2 2) 3 3) a1.1).getD 0), .string a1.2.1]) rfl (by kernel_rfl)) (by kernel_rfl) (by kernel_rfl) (by kernel_rfl) rfl (.inr (fun _ s => Sat.by [6, 6, 6, 6, 6, 6, 6] 7 1 (by kernel_rfl) s)) ?_
                refine TA.all2 (i := 10) (j := 16) (by kernel_rfl) ?_ ?_
                · refine TB.of rfl ?_
                  refine TO.s rfl rfl rfl (StepS.idxRR rfl rfl (SS.rr (Ent.at 7 rfl)) ksliceB_60_66_1_true hxq70_10_2) ?_
                  refine TA.back (.inr (fun _ s => Sat.by [6, 6, 6, 6, 6, 6, 6] 7 1 (by kernel_rfl) s)) ?_
                  refine TA.asL (L' := (MF (fun k : Int × Int × ByteArray => .agg #[I k.1, I k.2.1, .string k.2.2]) (fun x : Bool => .bool x) r41 (y42) :: Bx bq38_13_1 93 [I x16, I 5, .string r6] :: Bx bq38_12_1 93 [I x16, I 5, .string a1.2.1] :: Bx bq38_11_1 93 [I x16, I 4, .string a1.2.1] :: MF (fun k : Int => I k) (fun x : Int => I x) r9 (mupd (mupd (mupd (mzero : Int → Option Int) 1 1) 2 2) 3 3) :: Bx b5 45 [I a1.1, .string a1.2.1, .string a1.2.2.1, I a1.2.2.2] :: Bx b0_ 88 [u0_0, .map (some r41), h0_2] :: SS 66 95 2 cTis h0_2 hs15 (y14) :: L)) (listed' := #[true, true, true, true, true, true, true, true, true, true, true, false, true, true, true, true, false, false, false, false]) (by kernel_rfl) (by kernel_rfl) ?_
                  refine TA.all2 (i := 11) (j := 16) (by kernel_rfl) ?_ ?_
                  · refine TB.of rfl ?_
                    refine TO.s rfl rfl rfl (StepS.ldRR rfl (SS.rr (Ent.at 7 rfl)) kscalB_66_true hxq70_10_2) ?_
                    refine TA.back (.inr (fun _ s => Sat.by [6, 6, 6, 6, 6, 6, 6] 7 1 (by kernel_rfl) s)) ?_
                    refine TA.asL (L' := (MF (fun k : Int × Int × ByteArray => .agg #[I k.1, I k.2.1, .string k.2.2]) (fun x : Bool => .bool x) r41 (y42) :: Bx bq38_13_1 93 [I x16, I 5, .string r6] :: Bx bq38_12_1 93 [I x16, I 5, .string a1.2.1] :: Bx bq38_11_1 93 [I x16, I 4, .string a1.2.1] :: MF (fun k : Int => I k) (fun x : Int => I x) r9 (mupd (mupd (mupd (mzero : Int → Option Int) 1 1) 2 2) 3 3) :: Bx b5 45 [I a1.1, .string a1.2.1, .string a1.2.2.1, I a1.2.2.2] :: Bx b0_ 88 [u0_0, .map (some r41), h0_2] :: SS 66 95 2 cTis h0_2 hs15 (y14) :: L)) (listed' := #[true, true, true, true, true, true, true, true, true, true, true, true, true, true, true, true, false, false, false, false]) (by kernel_rfl) (by kernel_rfl) ?_
                    refine TA.all1 (i := 16) (by kernel_rfl) ?_
                    refine TB.of rfl ?_
                    refine TO.litS (f := cTis) ([((((mupd (mupd (mupd (mzero : Int → Option Int) 1 1) 2 2) 3 3) a1.1).getD 0), a1.2.1)] : List (Int × ByteArray)) kelemB_66_95_2_24_true kinfo_95_bind_zero_some_agg_I_0_string_ByteArray_empty rfl rfl (fun _ => rfl) rfl rfl (by kernel_rfl) rfl fun vq70_16_1 => ?_
                    refine TA.back (.inr (fun _ s => Sat.by [7, 7, 7, 7, 7, 7, 7] 7 2 (by kernel_rfl) s)) ?_
                    refine TA.asL (L' := (OwnS 95 2 vq70_16_1 (([((((mupd (mupd (mupd (mzero : Int → Option Int) 1 1) 2 2) 3 3) a1.1).getD 0), a1.2.1)] : List (Int × ByteArray)).map cTis) :: MF (fun k : Int × Int × ByteArray => .agg #[I k.1, I k.2.1, .string k.2.2]) (fun x : Bool => .bool x) r41 (y42) :: Bx bq38_13_1 93 [I x16, I 5, .string r6] :: Bx bq38_12_1 93 [I x16, I 5, .string a1.2.1] :: Bx bq38_11_1 93 [I x16, I 4, .string a1.2.1] :: MF (fun k : Int => I k) (fun x : Int => I x) r9 (mupd (mupd (mupd (mzero : Int → Option Int) 1 1) 2 2) 3 3) :: Bx b5 45 [I a1.1, .string a1.2.1, .string a1.2.2.1, I a1.2.2.2] :: Bx b0_ 88 [u0_0, .map (some r41), h0_2] :: SS 66 95 2 cTis h0_2 hs15 (y14) :: L)) (listed' := #[true, true, true, true, true, true, true, true, true, true, true, true, true, true, true, true, true, false, false, false]) (by kernel_rfl) (by kernel_rfl) ?_
                    refine TA.all1 (i := 17) (by kernel_rfl) ?_
                    refine TB.of rfl ?_
                    refine TO.ghost (fun _ s => Sat.front 8 rfl s) ?_
                    refine TO.ghost (fun _ s => Sat.openRow hxq70_10_2 s) ?_
                    refine TO.app (k := 0) (f := cTis) kelemB_66_95_2_24_true (by decide) rfl rfl rfl (OwnS.rd (Ent.at 2 rfl)) hkq70_17_3 (fun x c hc => by simp [Value.oneCell'] at hc ⊢; first | (obtain rfl := hc; rfl) | (rcases hc with rfl | rfl <;> rfl)) rfl rfl fun vq70_17_4 => ?_
                    refine TA.back (.inr (fun _ s => Sat.by [9, 9, 9, 9, 9, 9, 9] 7 3 (by kernel_rfl) s)) ?_
                    refine TA.asL (L' := (OwnS 95 2 vq70_17_4 (yq70_17_2.map cTis) :: SSh 66 95 2 cTis h0_2 hs15 (y14) x16.toNat :: OwnS 95 2 vq70_16_1 (([((((mupd (mupd (mupd (mzero : Int → Option Int) 1 1) 2 2) 3 3) a1.1).getD 0), a1.2.1)] : List (Int × ByteArray)).map cTis) :: MF (fun k : Int × Int × ByteArray => .agg #[I k.1, I k.2.1, .string k.2.2]) (fun x : Bool => .bool x) r41 (y42) :: Bx bq38_13_1 93 [I x16, I 5, .string r6] :: Bx bq38_12_1 93 [I x16, I 5, .string a1.2.1] :: Bx bq38_11_1 93 [I x16, I 4, .string a1.2.1] :: MF (fun k : Int => I k) (fun x : Int => I x) r9 (mupd (mupd (mupd (mzero : Int → Option Int) 1 1) 2 2) 3 3) :: Bx b5 45 [I a1.1, .string a1.2.1, .string a1.2.2.1, I a1.2.2.2] :: Bx b0_ 88 [u0_0, .map (some r41), h0_2] :: L)) (listed' := #[true, true, true, true, true, true, true, true, true, true, true, true, true, true, true, true, true, true, false, false]) (by kernel_rfl) (by kernel_rfl) ?_
                    refine TA.all1 (i := 18) (by kernel_rfl) ?_
                    refine TB.of rfl ?_
                    refine TO.s rfl rfl rfl (StepS.idxRH rfl rfl (Ent.at 1 rfl) ksliceB_60_66_1_true hxq70_18_2) ?_
                    refine TA.back (.inr (fun _ s => Sat.by [9, 9, 9, 9, 9, 9, 9] 7 3 (by kernel_rfl) s)) ?_
                    refine TA.asL (L' := (OwnS 95 2 vq70_17_4 (yq70_17_2.map cTis) :: SSh 66 95 2 cTis h0_2 hs15 (y14) x16.toNat :: OwnS 95 2 vq70_16_1 (([((((mupd (mupd (mupd (mzero : Int → Option Int) 1 1) 2 2) 3 3) a1.1).getD 0), a1.2.1)] : List (Int × ByteArray)).map cTis) :: MF (fun k : Int × Int × ByteArray => .agg #[I k.1, I k.2.1, .string k.2.2]) (fun x : Bool => .bool x) r41 (y42) :: Bx bq38_13_1 93 [I x16, I 5, .string r6] :: Bx bq38_12_1 93 [I x16, I 5, .string a1.2.1] :: Bx bq38_11_1 93 [I x16, I 4, .string a1.2.1] :: MF (fun k : Int => I k) (fun x : Int => I x) r9 (mupd (mupd (mupd (mzero : Int → Option Int) 1 1) 2 2) 3 3) :: Bx b5 45 [I a1.1, .string a1.2.1, .string a1.2.2.1, I a1.2.2.2] :: Bx b0_ 88 [u0_0, .map (some r41), h0_2] :: L)) (listed' := #[true, true, true, true, true, true, true, true, true, true, true, true, true, true, true, true, true, true, true, false]) (by kernel_rfl) (by kernel_rfl) ?_
                    refine TA.all1 (i := 19) (by kernel_rfl) ?_
                    refine TB.of rfl ?_
                    refine TO.ghost (fun _ s => Sat.front 1 rfl s) ?_
                    refine TO.stRowH (xs := yq70_17_2) rfl rfl hxq70_18_2 ksizeB_66_1_true ?_
                    refine TA.back (.inl (by kernel_rfl)) ?_
                    refine TA.asL (L' := (SS 66 95 2 cTis h0_2 (hs15.set x16.toNat vq70_17_4) (y14.set x16.toNat yq70_17_2) :: OwnS 95 2 vq70_16_1 (([((((mupd (mupd (mupd (mzero : Int → Option Int) 1 1) 2 2) 3 3) a1.1).getD 0), a1.2.1)] : List (Int × ByteArray)).map cTis) :: MF (fun k : Int × Int × ByteArray => .agg #[I k.1, I k.2.1, .string k.2.2]) (fun x : Bool => .bool x) r41 (y42) :: Bx bq38_13_1 93 [I x16, I 5, .string r6] :: Bx bq38_12_1 93 [I x16, I 5, .string a1.2.1] :: Bx bq38_11_1 93 [I x16, I 4, .string a1.2.1] :: MF (fun k : Int => I k) (fun x : Int => I x) r9 (mupd (mupd (mupd (mzero : Int → Option Int) 1 1) 2 2) 3 3) :: Bx b5 45 [I a1.1, .string a1.2.1, .string a1.2.2.1, I a1.2.2.2] :: Bx b0_ 88 [u0_0, .map (some r41), h0_2] :: L)) (listed' := #[true, true, true, true, true, true, true, true, true, true, true, true, true, true, true, true, true, true, true, true]) (by kernel_rfl) (by kernel_rfl) ?_
                    cases hj73
                    refine TA.nil (by kernel_rfl) fun a w e s => ?_
                    exact ⟨(hs15.set x16.toNat vq70_17_4), e.sub (lk_of_allIn ⟨rfl, rfl, rfl, rfl, rfl, rfl, trivial⟩), s.mono fun _ s => (by exact Sat.by [0, 8, 8, 8, 8, 8, 8, 8] 8 1 (by kernel_rfl) s)⟩
                  · refine TB.of rfl ?_
                    refine TO.litS (f := cTis) ([((((mupd (mupd (mupd (mzero : Int → Option Int) 1 1) 2 2) 3 3) a1.1).getD 0), a1.2.1)] : List (Int × ByteArray)) kelemB_66_95_2_24_true kinfo_95_bind_zero_some_agg_I_0_string_ByteArray_empty rfl rfl (fun _ => rfl) rfl rfl (by kernel_rfl) rfl fun vq70_16_1 => ?_
                    refine TA.back (.inr (fun _ s => Sat.by [7, 7, 7, 7, 7, 7, 7] 7 2 (by kernel_rfl) s)) ?_
                    refine TA.asL (L' := (OwnS 95 2 vq70_16_1 (([((((mupd (mupd (mupd (mzero : Int → Option Int) 1 1) 2 2) 3 3) a1.1).getD 0), a1.2.1)] : List (Int × ByteArray)).map cTis) :: MF (fun k : Int × Int × ByteArray => .agg #[I k.1, I k.2.1, .string k.2.2]) (fun x : Bool => .bool x) r41 (y42) :: Bx bq38_13_1 93 [I x16, I 5, .string r6] :: Bx bq38_12_1 93 [I x16, I 5, .string a1.2.1] :: Bx bq38_11_1 93 [I x16, I 4, .string a1.2.1] :: MF (fun k : Int => I k) (fun x : Int => I x) r9 (mupd (mupd (mupd (mzero : Int → Option Int) 1 1) 2 2) 3 3) :: Bx b5 45 [I a1.1, .string a1.2.1, .string a1.2.2.1, I a1.2.2.2] :: Bx b0_ 88 [u0_0, .map (some r41), h0_2] :: SS 66 95 2 cTis h0_2 hs15 (y14) :: L)) (listed' := #[true, true, true, true, true, true, true, true, true, true, true, false, true, true, true, true, true, false, false, false]) (by kernel_rfl) (by kernel_rfl) ?_
                    refine TA.all1 (i := 11) (by kernel_rfl) ?_
                    refine TB.of rfl ?_
                    refine TO.s rfl rfl rfl (StepS.ldRR rfl (SS.rr (Ent.at 8 rfl)) kscalB_66_true hxq70_10_2) ?_
                    refine TA.back (.inr (fun _ s => Sat.by [7, 7, 7, 7, 7, 7, 7] 7 2 (by kernel_rfl) s)) ?_
                    refine TA.asL (L' := (OwnS 95 2 vq70_16_1 (([((((mupd (mupd (mupd (mzero : Int → Option Int) 1 1) 2 2) 3 3) a1.1).getD 0), a1.2.1)] : List (Int × ByteArray)).map cTis) :: MF (fun k : Int × Int × ByteArray => .agg #[I k.1, I k.2.1, .string k.2.2]) (fun x : Bool => .bool x) r41 (y42) :: Bx bq38_13_1 93 [I x16, I 5, .string r6] :: Bx bq38_12_1 93 [I x16, I 5, .string a1.2.1] :: Bx bq38_11_1 93 [I x16, I 4, .string a1.2.1] :: MF (fun k : Int => I k) (fun x : Int => I x) r9 (mupd (mupd (mupd (mzero : Int → Option Int) 1 1) 2 2) 3 3) :: Bx b5 45 [I a1.1, .string a1.2.1, .string a1.2.2.1, I a1.2.2.2] :: Bx b0_ 88 [u0_0, .map (some r41), h0_2] :: SS 66 95 2 cTis h0_2 hs15 (y14) :: L)) (listed' := #[true, true, true, true, true, true, true, true, true, true, true, true, true, true, true, true, true, false, false, false]) (by kernel_rfl) (by kernel_rfl) ?_
                    refine TA.all1 (i := 17) (by kernel_rfl) ?_
                    refine TB.of rfl ?_
                    refine TO.ghost (fun _ s => Sat.front 8 rfl s) ?_
                    refine TO.ghost (fun _ s => Sat.openRow hxq70_10_2 s) ?_
                    refine TO.app (k := 0) (f := cTis) kelemB_66_95_2_24_true (by decide) rfl rfl rfl (OwnS.rd (Ent.at 2 rfl)) hkq70_17_3 (fun x c hc => by simp [Value.oneCell'] at hc ⊢; first | (obtain rfl := hc; rfl) | (rcases hc with rfl | rfl <;> rfl)) rfl rfl fun vq70_17_4 => ?_
                    refine TA.back (.inr (fun _ s => Sat.by [9, 9, 9, 9, 9, 9, 9] 7 3 (by kernel_rfl) s)) ?_
                    refine TA.asL (L' := (OwnS 95 2 vq70_17_4 (yq70_17_2.map cTis) :: SSh 66 95 2 cTis h0_2 hs15 (y14) x16.toNat :: OwnS 95 2 vq70_16_1 (([((((mupd (mupd (mupd (mzero : Int → Option Int) 1 1) 2 2) 3 3) a1.1).getD 0), a1.2.1)] : List (Int × ByteArray)).map cTis) :: MF (fun k : Int × Int × ByteArray => .agg #[I k.1, I k.2.1, .string k.2.2]) (fun x : Bool => .bool x) r41 (y42) :: Bx bq38_13_1 93 [I x16, I 5, .string r6] :: Bx bq38_12_1 93 [I x16, I 5, .string a1.2.1] :: Bx bq38_11_1 93 [I x16, I 4, .string a1.2.1] :: MF (fun k : Int => I k) (fun x : Int => I x) r9 (mupd (mupd (mupd (mzero : Int → Option Int) 1 1) 2 2) 3 3) :: Bx b5 45 [I a1.1, .string a1.2.1, .string a1.2.2.1, I a1.2.2.2] :: Bx b0_ 88 [u0_0, .map (some r41), h0_2] :: L)) (listed' := #[true, true, true, true, true, true, true, true, true, true, true, true, true, true, true, true, true, true, false, false]) (by kernel_rfl) (by kernel_rfl) ?_
                    refine TA.all1 (i := 18) (by kernel_rfl) ?_
                    refine TB.of rfl ?_
                    refine TO.s rfl rfl rfl (StepS.idxRH rfl rfl (Ent.at 1 rfl) ksliceB_60_66_1_true hxq70_18_2) ?_
                    refine TA.back (.inr (fun _ s => Sat.by [9, 9, 9, 9, 9, 9, 9] 7 3 (by kernel_rfl) s)) ?_
                    refine TA.asL (L' := (OwnS 95 2 vq70_17_4 (yq70_17_2.map cTis) :: SSh 66 95 2 cTis h0_2 hs15 (y14) x16.toNat :: OwnS 95 2 vq70_16_1 (([((((mupd (mupd (mupd (mzero : Int → Option Int) 1 1) 2 2) 3 3) a1.1).getD 0), a1.2.1)] : List (Int × ByteArray)).map cTis) :: MF (fun k : Int × Int × ByteArray => .agg #[I k.1, I k.2.1, .string k.2.2]) (fun x : Bool => .bool x) r41 (y42) :: Bx bq38_13_1 93 [I x16, I 5, .string r6] :: Bx bq38_12_1 93 [I x16, I 5, .string a1.2.1] :: Bx bq38_11_1 93 [I x16, I 4, .string a1.2.1] :: MF (fun k : Int => I k) (fun x : Int => I x) r9 (mupd (mupd (mupd (mzero : Int → Option Int) 1 1) 2 2) 3 3) :: Bx b5 45 [I a1.1, .string a1.2.1, .string a1.2.2.1, I a1.2.2.2] :: Bx b0_ 88 [u0_0, .map (some r41), h0_2] :: L)) (listed' := #[true, true, true, true, true, true, true, true, true, true, true, true, true, true, true, true, true, true, true, false]) (by kernel_rfl) (by kernel_rfl) ?_
                    refine TA.all1 (i := 19) (by kernel_rfl) ?_
                    refine TB.of rfl ?_
                    refine TO.ghost (fun _ s => Sat.front 1 rfl s) ?_
                    refine TO.stRowH (xs := yq70_17_2) rfl rfl hxq70_18_2 ksizeB_66_1_true ?_
                    refine TA.back (.inl (by kernel_rfl)) ?_
                    refine TA.asL (L' := (SS 66 95 2 cTis h0_2 (hs15.set x16.toNat vq70_17_4) (y14.set x16.toNat yq70_17_2) :: OwnS 95 2 vq70_16_1 (([((((mupd (mupd (mupd (mzero : Int → Option Int) 1 1) 2 2) 3 3) a1.1).getD 0), a1.2.1)] : List (Int × ByteArray)).map cTis) :: MF (fun k : Int × Int × ByteArray => .agg #[I k.1, I k.2.1, .string k.2.2]) (fun x : Bool => .bool x) r41 (y42) :: Bx bq38_13_1 93 [I x16, I 5, .string r6] :: Bx bq38_12_1 93 [I x16, I 5, .string a1.2.1] :: Bx bq38_11_1 93 [I x16, I 4, .string a1.2.1] :: MF (fun k : Int => I k) (fun x : Int => I x) r9 (mupd (mupd (mupd (mzero : Int → Option Int) 1 1) 2 2) 3 3) :: Bx b5 45 [I a1.1, .string a1.2.1, .string a1.2.2.1, I a1.2.2.2] :: Bx b0_ 88 [u0_0, .map (some r41), h0_2] :: L)) (listed' := #[true, true, true, true, true, true, true, true, true, true, true, true, true, true, true, true, true, true, true, true]) (by kernel_rfl) (by kernel_rfl) ?_
                    cases hj73
                    refine TA.nil (by kernel_rfl) fun a w e s => ?_
                    exact ⟨(hs15.set x16.toNat vq70_17_4), e.sub (lk_of_allIn ⟨rfl, rfl, rfl, rfl, rfl, rfl, trivial⟩), s.mono fun _ s => (by exact Sat.by [0, 8, 8, 8, 8, 8, 8, 8] 8 1 (by kernel_rfl) s)⟩
                · refine TB.of rfl ?_
                  refine TO.litS (f := cTis) ([((((mupd (mupd (mupd (mzero : Int → Option Int) 1 1) 2 2) 3 3) a1.1).getD 0), a1.2.1)] : List (Int × ByteArray)) kelemB_66_95_2_24_true kinfo_95_bind_zero_some_agg_I_0_string_ByteArray_empty rfl rfl (fun _ => rfl) rfl rfl (by kernel_rfl) rfl fun vq70_16_1 => ?_
                  refine TA.back (.inr (fun _ s => Sat.by [7, 7, 7, 7, 7, 7, 7] 7 2 (by kernel_rfl) s)) ?_
                  refine TA.asL (L' := (OwnS 95 2 vq70_16_1 (([((((mupd (mupd (mupd (mzero : Int → Option Int) 1 1) 2 2) 3 3) a1.1).getD 0), a1.2.1)] : List (Int × ByteArray)).map cTis) :: MF (fun k : Int × Int × ByteArray => .agg #[I k.1, I k.2.1, .string k.2.2]) (fun x : Bool => .bool x) r41 (y42) :: Bx bq38_13_1 93 [I x16, I 5, .string r6] :: Bx bq38_12_1 93 [I x16, I 5, .string a1.2.1] :: Bx bq38_11_1 93 [I x16, I 4, .string a1.2.1] :: MF (fun k : Int => I k) (fun x : Int => I x) r9 (mupd (mupd (mupd (mzero : Int → Option Int) 1 1) 2 2) 3 3) :: Bx b5 45 [I a1.1, .string a1.2.1, .string a1.2.2.1, I a1.2.2.2] :: Bx b0_ 88 [u0_0, .map (some r41), h0_2] :: SS 66 95 2 cTis h0_2 hs15 (y14) :: L)) (listed' := #[true, true, true, true, true, true, true, true, true, true, false, false, true, true, true, true, true, false, false, false]) (by kernel_rfl) (by kernel_rfl) ?_
                  refine TA.all1 (i := 10) (by kernel_rfl) ?_
                  refine TB.of rfl ?_
                  refine TO.s rfl rfl rfl (StepS.idxRR rfl rfl (SS.rr (Ent.at 8 rfl)) ksliceB_60_66_1_true hxq70_10_2) ?_
                  refine TA.back (.inr (fun _ s => Sat.by [7, 7, 7, 7, 7, 7, 7] 7 2 (by kernel_rfl) s)) ?_
                  refine TA.asL (L' := (OwnS 95 2 vq70_16_1 (([((((mupd (mupd (mupd (mzero : Int → Option Int) 1 1) 2 2) 3 3) a1.1).getD 0), a1.2.1)] : List (Int × ByteArray)).map cTis) :: MF (fun k : Int × Int × ByteArray => .agg #[I k.1, I k.2.1, .string k.2.2]) (fun x : Bool => .bool x) r41 (y42) :: Bx bq38_13_1 93 [I x16, I 5, .string r6] :: Bx bq38_12_1 93 [I x16, I 5, .string a1.2.1] :: Bx bq38_11_1 93 [I x16, I 4, .string a1.2.1] :: MF (fun k : Int => I k) (fun x : Int => I x) r9 (mupd (mupd (mupd (mzero : Int → Option Int) 1 1) 2 2) 3 3) :: Bx b5 45 [I a1.1, .string a1.2.1, .string a1.2.2.1, I a1.2.2.2] :: Bx b0_ 88 [u0_0, .map (some r41), h0_2] :: SS 66 95 2 cTis h0_2 hs15 (y14) :: L)) (listed' := #[true, true, true, true, true, true, true, true, true, true, true, false, true, true, true, true, true, false, false, false]) (by kernel_rfl) (by kernel_rfl) ?_
                  refine TA.all1 (i := 11) (by kernel_rfl) ?_
                  refine TB.of rfl ?_
                  refine TO.s rfl rfl rfl (StepS.ldRR rfl (SS.rr (Ent.at 8 rfl)) kscalB_66_true hxq70_10_2) ?_
                  refine TA.back (.inr (fun _ s => Sat.by [7, 7, 7, 7, 7, 7, 7] 7 2 (by kernel_rfl) s)) ?_
                  refine TA.asL (L' := (OwnS 95 2 vq70_16_1 (([((((mupd (mupd (mupd (mzero : Int → Option Int) 1 1) 2 2) 3 3) a1.1).getD 0), a1.2.1)] : List (Int × ByteArray)).map cTis) :: MF (fun k : Int × Int × ByteArray => .agg #[I k.1, I k.2.1, .string k.2.2]) (fun x : Bool => .bool x) r41 (y42) :: Bx bq38_13_1 93 [I x16, I 5, .string r6] :: Bx bq38_12_1 93 [I x16, I 5, .string a1.2.1] :: Bx bq38_11_1 93 [I x16, I 4, .string a1.2.1] :: MF (fun k : Int => I k) (fun x : Int => I x) r9 (mupd (mupd (mupd (mzero : Int → Option Int) 1 1) 2 2) 3 3) :: Bx b5 45 [I a1.1, .string a1.2.1, .string a1.2.2.1, I a1.2.2.2] :: Bx b0_ 88 [u0_0, .map (some r41), h0_2] :: SS 66 95 2 cTis h0_2 hs15 (y14) :: L)) (listed' := #[true, true, true, true, true, true, true, true, true, true, true, true, true, true, true, true, true, false, false, false]) (by kernel_rfl) (by kernel_rfl) ?_
                  refine TA.all1 (i := 17) (by kernel_rfl) ?_
                  refine TB.of rfl ?_
                  refine TO.ghost (fun _ s => Sat.front 8 rfl s) ?_
                  refine TO.ghost (fun _ s => Sat.openRow hxq70_10_2 s) ?_
                  refine TO.app (k := 0) (f := cTis) kelemB_66_95_2_24_true (by decide) rfl rfl rfl (OwnS.rd (Ent.at 2 rfl)) hkq70_17_3 (fun x c hc => by simp [Value.oneCell'] at hc ⊢; first | (obtain rfl := hc; rfl) | (rcases hc with rfl | rfl <;> rfl)) rfl rfl fun vq70_17_4 => ?_
                  refine TA.back (.inr (fun _ s => Sat.by [9, 9, 9, 9, 9, 9, 9] 7 3 (by kernel_rfl) s)) ?_
                  refine TA.asL (L' := (OwnS 95 2 vq70_17_4 (yq70_17_2.map cTis) :: SSh 66 95 2 cTis h0_2 hs15 (y14) x16.toNat :: OwnS 95 2 vq70_16_1 (([((((mupd (mupd (mupd (mzero : Int → Option Int) 1 1) 2 2) 3 3) a1.1).getD 0), a1.2.1)] : List (Int × ByteArray)).map cTis) :: MF (fun k : Int × Int × ByteArray => .agg #[I k.1, I k.2.1, .string k.2.2]) (fun x : Bool => .bool x) r41 (y42) :: Bx bq38_13_1 93 [I x16, I 5, .string r6] :: Bx bq38_12_1 93 [I x16, I 5, .string a1.2.1] :: Bx bq38_11_1 93 [I x16, I 4, .string a1.2.1] :: MF (fun k : Int => I k) (fun x : Int => I x) r9 (mupd (mupd (mupd (mzero : Int → Option Int) 1 1) 2 2) 3 3) :: Bx b5 45 [I a1.1, .string a1.2.1, .string a1.2.2.1, I a1.2.2.2] :: Bx b0_ 88 [u0_0, .map (some r41), h0_2] :: L)) (listed' := #[true, true, true, true, true, true, true, true, true, true, true, true, true, true, true, true, true, true, false, false]) (by kernel_rfl) (by kernel_rfl) ?_
                  refine TA.all1 (i := 18) (by kernel_rfl) ?_
                  refine TB.of rfl ?_
                  refine TO.s rfl rfl rfl (StepS.idxRH rfl rfl (Ent.at 1 rfl) ksliceB_60_66_1_true hxq70_18_2) ?_
                  refine TA.back (.inr (fun _ s => Sat.by [9, 9, 9, 9, 9, 9, 9] 7 3 (by kernel_rfl) s)) ?_
                  refine TA.asL (L' := (OwnS 95 2 vq70_17_4 (yq70_17_2.map cTis) :: SSh 66 95 2 cTis h0_2 hs15 (y14) x16.toNat :: OwnS 95 2 vq70_16_1 (([((((mupd (mupd (mupd (mzero : Int → Option Int) 1 1) 2 2) 3 3) a1.1).getD 0), a1.2.1)] : List (Int × ByteArray)).map cTis) :: MF (fun k : Int × Int × ByteArray => .agg #[I k.1, I k.2.1, .string k.2.2]) (fun x : Bool => .bool x) r41 (y42) :: Bx bq38_13_1 93 [I x16, I 5, .string r6] :: Bx bq38_12_1 93 [I x16, I 5, .string a1.2.1] :: Bx bq38_11_1 93 [I x16, I 4, .string a1.2.1] :: MF (fun k : Int => I k) (fun x : Int => I x) r9 (mupd (mupd (mupd (mzero : Int → Option Int) 1 1) 2 2) 3 3) :: Bx b5 45 [I a1.1, .string a1.2.1, .string a1.2.2.1, I a1.2.2.2] :: Bx b0_ 88 [u0_0, .map (some r41), h0_2] :: L)) (listed' := #[true, true, true, true, true, true, true, true, true, true, true, true, true, true, true, true, true, true, true, false]) (by kernel_rfl) (by kernel_rfl) ?_
                  refine TA.all1 (i := 19) (by kernel_rfl) ?_
                  refine TB.of rfl ?_
                  refine TO.ghost (fun _ s => Sat.front 1 rfl s) ?_
                  refine TO.stRowH (xs := yq70_17_2) rfl rfl hxq70_18_2 ksizeB_66_1_true ?_
                  refine TA.back (.inl (by kernel_rfl)) ?_
                  refine TA.asL (L' := (SS 66 95 2 cTis h0_2 (hs15.set x16.toNat vq70_17_4) (y14.set x16.toNat yq70_17_2) :: OwnS 95 2 vq70_16_1 (([((((mupd (mupd (mupd (mzero : Int → Option Int) 1 1) 2 2) 3 3) a1.1).getD 0), a1.2.1)] : List (Int × ByteArray)).map cTis) :: MF (fun k : Int × Int × ByteArray => .agg #[I k.1, I k.2.1, .string k.2.2]) (fun x : Bool => .bool x) r41 (y42) :: Bx bq38_13_1 93 [I x16, I 5, .string r6] :: Bx bq38_12_1 93 [I x16, I 5, .string a1.2.1] :: Bx bq38_11_1 93 [I x16, I 4, .string a1.2.1] :: MF (fun k : Int => I k) (fun x : Int => I x) r9 (mupd (mupd (mupd (mzero : Int → Option Int) 1 1) 2 2) 3 3) :: Bx b5 45 [I a1.1, .string a1.2.1, .string a1.2.2.1, I a1.2.2.2] :: Bx b0_ 88 [u0_0, .map (some r41), h0_2] :: L)) (listed' := #[true, true, true, true, true, true, true, true, true, true, true, true, true, true, true, true, true, true, true, true]) (by kernel_rfl) (by kernel_rfl) ?_
                  cases hj73
                  refine TA.nil (by kernel_rfl) fun a w e s => ?_
                  exact ⟨(hs15.set x16.toNat vq70_17_4), e.sub (lk_of_allIn ⟨rfl, rfl, rfl, rfl, rfl, rfl, trivial⟩), s.mono fun _ s => (by exact Sat.by [0, 8, 8, 8, 8, 8, 8, 8] 8 1 (by kernel_rfl) s)⟩
              · intro a w ⟨hs72, he, hs⟩
                cases hj37
                have e := he; have s := hs
                exact ⟨r41, hs72, e.sub (lk_of_allIn ⟨rfl, rfl, rfl, rfl, rfl, rfl, trivial⟩), s.mono fun _ s => (by exact Sat.by [7, 7, 7, 7, 4] 5 3 (by kernel_rfl) s)⟩
            · replace hj37 := cond_f hc69 hj37
              cases hj37
              refine TC.skip fun a w e s => ?_
              exact ⟨r41, hs15, e.sub (lk_of_allIn ⟨rfl, rfl, rfl, rfl, rfl, rfl, trivial⟩), s.mono fun _ s => (by exact Sat.by [7, 7, 7, 7, 4] 5 3 (by kernel_rfl) s)⟩
      · intro a w ⟨r33, hs36, he, hs⟩
        refine TC.use ?_ he hs
        refine TC.region ?_
        refine TO.s rfl rfl rfl (StepS.ari rfl rfl rfl) ?_
        refine TO.s rfl rfl rfl (StepS.move rfl) ?_
        cases hb30
        refine TO.nil fun a w e s => ?_
        exact ⟨r33, hs36, e.sub (lk_of_allIn ⟨rfl, rfl, rfl, rfl, rfl, rfl, trivial⟩), s⟩
    · replace hb30 := cond_f hc31 hb30
      cases hb30
      refine TC.exit rfl fun a w e s => ?_
      exact ⟨r12, hs15, e.sub (lk_of_allIn trivial), s⟩
  · exact fun a w e s => ⟨h0_1, h0_3, e.sub (lk_of_allIn ⟨rfl, rfl, rfl, rfl, rfl, rfl, trivial⟩), s.mono fun _ s => (by exact Sat.by [4, 3, 3, 3, 4] 5 0 (by kernel_rfl) s)⟩
  · rintro ⟨y25, y26⟩ rfl a w ⟨r24, hs27, he, hs⟩
    dsimp only [Ctl.on] at hm
    cases hm
    have e := he; have s := hs
    refine FRet.mk0 (P := Tryd.prog) (fn := Tryd.f31) e rfl ?_
    refine ⟨_, _, rfl, ⟨r24, (hs27), rfl, rfl⟩, ?_⟩
    refine s.mono fun _ s => ?_
    replace s := Sat.front 4 rfl s
    replace s := Sat.front 1 rfl s
    replace s := Sat.front 4 rfl s
    replace s := Sat.erase 3 s
    replace s := Sat.erase 3 s
    exact s
  · rintro r rfl
    exact fun a w h => h.elim

set_option maxRecDepth 100000 in
theorem C22 {B : World} {L : List HP} {a0 : List (Int × Bool × Int × ByteArray × ByteArray × Int)} {h0 : Value} {r0 : List (Int × ByteArray × Int × List ByteArray)} {r1 : List (List (Int × ByteArray))} {r2 : Int} (e0 : Ent L (Rd 6 h0 (a0.map cTibissi))) (hm : F22 a0 = some (r0, r1, r2)) {w : World} (st : St B L w) : Calls Tryd.prog 22 #[h0] w (fun e w' => ∃ v M, e = .returned v ∧ (∃ (qv1 : Value) (qhs2 : List (List Value)) (qv3 : Value) (qhs4 : List Value), v = .tuple #[qv1, qv3, I r2] ∧ M = (SN 41 4 nT41 qv1 qhs2 (r0) :: SS 66 95 2 cTis qv3 qhs4 (r1) :: L)) ∧ St B M w') := by
  refine calls_of (N := 81) (L := L) (args := [h0]) Tryd.func22 rfl rfl rfl ?_ st
  dsimp only [F22] at hm
  refine TC.k ?_
  refine TC.region ?_
  refine TO.s rfl rfl rfl (StepS.assign rfl) ?_
  refine TO.s rfl rfl rfl (StepS.assign rfl) ?_
  refine TO.s rfl rfl rfl (StepS.assign rfl) ?_
  refine TO.code ?_
  refine TC.k ?_
  refine TC.k ?_
  refine TC.region ?_
  refine TO.s rfl rfl rfl (StepS.move rfl) ?_
  refine TO.s rfl rfl rfl (StepS.lenm rfl e0 ksliceB_59_90_6_true rfl) ?_
  refine TO.s rfl rfl rfl (StepS.cmp rfl rfl rfl) ?_
  refine TO.code ?_
  refine TC.cond rfl (fun hc3 => ?_) (fun hc3 => ?_)
  · replace hm := cond_t hc3 hm
    refine TC.k ?_
    refine TC.region ?_
    refine TO.s rfl rfl rfl (StepS.assign rfl) ?_
    refine TO.s rfl rfl rfl (StepS.assign rfl) ?_
    refine TO.s rfl rfl rfl (StepS.assign rfl) ?_
    refine TO.code ?_
    cases hm
    refine TC.ret fun a w e s => ?_
    refine FRet.mk3 (P := Tryd.prog) (fn := Tryd.f22) (t := 2) (u := 3) (s := 4) e rfl rfl rfl rfl ?_
    refine ⟨_, _, rfl, ⟨(.slice none 0 0), ([]), (.slice none 0 0), ([]), rfl, rfl⟩, ?_⟩
    refine s.mono fun _ s => ?_
    replace s := Sat.nilSS (e := 66) (ee := 95) (sz := 2) (f := cTis) s
    replace s := Sat.nilSN (e := 41) (sz := 4) (T := nT41) s
    exact s
  · replace hm := cond_f hc3 hm
    refine TC.skipk ?_
    refine TC.k ?_
    obtain ⟨⟨y7, y11, y14⟩, hj15, hm⟩ := bind_some hm
    first | refine TC.cutM (fun a w => ∃ r6 : Nat, ∃ v8 : Value, ∃ hs9 : List Value, ∃ r13 : Nat, ∃ bq4_4_1 : Nat, ∃ bq4_0_5 : Nat, Mid 81 B [(0, h0), (5, .pointer (some ⟨bq4_4_1, 0, none⟩))] (MF (fun k : Int × Int × ByteArray => .agg #[I k.1, I k.2.1, .string k.2.2]) (fun x : Bool => .bool x) r6 (y7) :: SS 66 95 2 cTis v8 hs9 (y11) :: MF (fun k : ByteArray => .string k) (fun x : ByteArray × Int => .agg (cTsi x).toArray) r13 (y14) :: Bx bq4_4_1 88 [.pointer (some ⟨bq4_0_5, 0, none⟩), .map (some r6), v8] :: Bx bq4_0_5 103 [.map (some r13)] :: L) a w) ?_ ?_ | refine TC.cutX (fun a w => ∃ r6 : Nat, ∃ v8 : Value, ∃ hs9 : List Value, ∃ r13 : Nat, ∃ bq4_4_1 : Nat, ∃ bq4_0_5 : Nat, Mid 81 B [(0, h0), (5, .pointer (some ⟨bq4_4_1, 0, none⟩))] (MF (fun k : Int × Int × ByteArray => .agg #[I k.1, I k.2.1, .string k.2.2]) (fun x : Bool => .bool x) r6 (y7) :: SS 66 95 2 cTis v8 hs9 (y11) :: MF (fun k : ByteArray => .string k) (fun x : ByteArray × Int => .agg (cTsi x).toArray) r13 (y14) :: Bx bq4_4_1 88 [.pointer (some ⟨bq4_0_5, 0, none⟩), .map (some r6), v8] :: Bx bq4_0_5 103 [.map (some r13)] :: L) a w) ?_ ?_
    · obtain ⟨rq4_0_1, hcq4_0_2, hj15⟩ := bind_some hj15
      obtain ⟨yq4_2_1, hkq4_2_2, hj15⟩ := bind_some hj15
      refine TC.region_any (L) 6 6 kfollows_mixedOrders_true rfl ?_
      refine TA.all3 (i := 0) (j := 1) (k := 2) (by kernel_rfl) ?_ ?_ ?_
      · refine TB.of rfl ?_
        refine TO.callO kcallB_26_true rfl rfl rfl (fun _ st => C26  hcq4_0_2 st) ?_
        rintro _ _ ⟨bq4_0_5, rq4_0_3, rfl, rfl⟩
        refine TA.back (.inr (fun _ s => Sat.by [] 0 2 (by kernel_rfl) s)) ?_
        refine TA.asL (L' := (Bx bq4_0_5 103 [.map (some rq4_0_3)] :: MF (fun k : ByteArray => .string k) (fun x : ByteArray × Int => .agg (cTsi x).toArray) rq4_0_3 (rq4_0_1) :: L)) (listed' := #[true, false, false, false, false, false]) (by kernel_rfl) (by kernel_rfl) ?_
        refine TA.all2 (i := 1) (j := 2) (by kernel_rfl) ?_ ?_
        · refine TB.of rfl ?_
          refine TO.mkMF (kf := (fun k : Int × Int × ByteArray => .agg #[I k.1, I k.2.1, .string k.2.2])) (vf := (fun x : Bool => .bool x)) rfl fun rq4_1_1 => ?_
          refine TA.back (.inr (fun _ s => Sat.by [] 0 3 (by kernel_rfl) s)) ?_
          refine TA.asL (L' := (MF (fun k : Int × Int × ByteArray => .agg #[I k.1, I k.2.1, .string k.2.2]) (fun x : Bool => .bool x) rq4_1_1 ((mzero : (Int × Int × ByteArray) → Option Bool)) :: Bx bq4_0_5 103 [.map (some rq4_0_3)] :: MF (fun k : ByteArray => .string k) (fun x : ByteArray × Int => .agg (cTsi x).toArray) rq4_0_3 (rq4_0_1) :: L)) (listed' := #[true, true, false, false, false, false]) (by kernel_rfl) (by kernel_rfl) ?_
          refine TA.all1 (i := 2) (by kernel_rfl) ?_
          refine TB.of rfl ?_
          refine TO.mkSSg (ee := 95) (sz := 2) (f := cTis) kelemB_60_66_1_24_true kinfo_66_bind_zero_some_slice_none_0_0 rfl rfl hkq4_2_2 rfl fun vq4_2_3 hsq4_2_4 => ?_
          refine TA.back (.inr (fun _ s => Sat.by [] 0 4 (by kernel_rfl) s)) ?_
          refine TA.asL (L' := (SS 66 95 2 cTis vq4_2_3 hsq4_2_4 (yq4_2_1) :: MF (fun k : Int × Int × ByteArray => .agg #[I k.1, I k.2.1, .string k.2.2]) (fun x : Bool => .bool x) rq4_1_1 ((mzero : (Int × Int × ByteArray) → Option Bool)) :: Bx bq4_0_5 103 [.map (some rq4_0_3)] :: MF (fun k : ByteArray => .string k) (fun x : ByteArray × Int => .agg (cTsi x).toArray) rq4_0_3 (rq4_0_1) :: L)) (listed' := #[true, true, true, false, false, false]) (by kernel_rfl) (by kernel_rfl) ?_
          refine TA.all1 (i := 3) (by kernel_rfl) ?_
          refine TB.of rfl ?_
          refine TO.pure (fun _ s => Rd.one (RR.top (SS.rr (Ent.at 0 rfl))) s) fun ocq4_3_1 => ?_
          refine TO.s rfl rfl rfl (StepS.buildS (us := [(0, .pointer (some ⟨bq4_0_5, 0, none⟩)), (1, .map (some rq4_1_1)), (2, .agg #[vq4_2_3])]) (cs := [.pointer (some ⟨bq4_0_5, 0, none⟩), .map (some rq4_1_1), vq4_2_3]) rfl (by simp only [List.map_cons, List.map_nil, ocq4_3_1.2] <;> rfl) (by kernel_rfl)) ?_
          refine TA.back (.inr (fun _ s => Sat.by [] 0 4 (by kernel_rfl) s)) ?_
          refine TA.all1 (i := 4) (by kernel_rfl) ?_
          refine TB.of rfl ?_
          refine TO.box (cs := [.pointer (some ⟨bq4_0_5, 0, none⟩), .map (some rq4_1_1), vq4_2_3]) rfl rfl rfl fun bq4_4_1 => ?_
          refine TA.back (.inr (fun _ s => Sat.by [] 0 5 (by kernel_rfl) s)) ?_
          refine TA.asL (L' := (Bx bq4_4_1 88 [.pointer (some ⟨bq4_0_5, 0, none⟩), .map (some rq4_1_1), vq4_2_3] :: SS 66 95 2 cTis vq4_2_3 hsq4_2_4 (yq4_2_1) :: MF (fun k : Int × Int × ByteArray => .agg #[I k.1, I k.2.1, .string k.2.2]) (fun x : Bool => .bool x) rq4_1_1 ((mzero : (Int × Int × ByteArray) → Option Bool)) :: Bx bq4_0_5 103 [.map (some rq4_0_3)] :: MF (fun k : ByteArray => .string k) (fun x : ByteArray × Int => .agg (cTsi x).toArray) rq4_0_3 (rq4_0_1) :: L)) (listed' := #[true, true, true, true, true, false]) (by kernel_rfl) (by kernel_rfl) ?_
          refine TA.takeW 5 rfl rfl rfl rfl (StepS.assign rfl) (by kernel_rfl) (by kernel_rfl) (by kernel_rfl) rfl (.inr (fun _ s => Sat.by [] 0 5 (by kernel_rfl) s)) ?_
          cases hj15
          refine TA.nil (by kernel_rfl) fun a w e s => ?_
          exact ⟨rq4_1_1, vq4_2_3, hsq4_2_4, rq4_0_3, bq4_4_1, bq4_0_5, e.sub (lk_of_allIn ⟨rfl, rfl, trivial⟩), s.mono fun _ s => (by exact Sat.by [3, 1, 4, 3, 4] 5 0 (by kernel_rfl) s)⟩
        · refine TB.of rfl ?_
          refine TO.mkSSg (ee := 95) (sz := 2) (f := cTis) kelemB_60_66_1_24_true kinfo_66_bind_zero_some_slice_none_0_0 rfl rfl hkq4_2_2 rfl fun vq4_2_3 hsq4_2_4 => ?_
          refine TA.back (.inr (fun _ s => Sat.by [] 0 3 (by kernel_rfl) s)) ?_
          refine TA.asL (L' := (SS 66 95 2 cTis vq4_2_3 hsq4_2_4 (yq4_2_1) :: Bx bq4_0_5 103 [.map (some rq4_0_3)] :: MF (fun k : ByteArray => .string k) (fun x : ByteArray × Int => .agg (cTsi x).toArray) rq4_0_3 (rq4_0_1) :: L)) (listed' := #[true, false, true, false, false, false]) (by kernel_rfl) (by kernel_rfl) ?_
          refine TA.all1 (i := 1) (by kernel_rfl) ?_
          refine TB.of rfl ?_
          refine TO.mkMF (kf := (fun k : Int × Int × ByteArray => .agg #[I k.1, I k.2.1, .string k.2.2])) (vf := (fun x : Bool => .bool x)) rfl fun rq4_1_1 => ?_
          refine TA.back (.inr (fun _ s => Sat.by [] 0 4 (by kernel_rfl) s)) ?_
          refine TA.asL (L' := (MF (fun k : Int × Int × ByteArray => .agg #[I k.1, I k.2.1, .string k.2.2]) (fun x : Bool => .bool x) rq4_1_1 ((mzero : (Int × Int × ByteArray) → Option Bool)) :: SS 66 95 2 cTis vq4_2_3 hsq4_2_4 (yq4_2_1) :: Bx bq4_0_5 103 [.map (some rq4_0_3)] :: MF (fun k : ByteArray => .string k) (fun x : ByteArray × Int => .agg (cTsi x).toArray) rq4_0_3 (rq4_0_1) :: L)) (listed' := #[true, true, true, false, false, false]) (by kernel_rfl) (by kernel_rfl) ?_
          refine TA.all1 (i := 3) (by kernel_rfl) ?_
          refine TB.of rfl ?_
          refine TO.pure (fun _ s => Rd.one (RR.top (SS.rr (Ent.at 1 rfl))) s) fun ocq4_3_1 => ?_
          refine TO.s rfl rfl rfl (StepS.buildS (us := [(0, .pointer (some ⟨bq4_0_5, 0, none⟩)), (1, .map (some rq4_1_1)), (2, .agg #[vq4_2_3])]) (cs := [.pointer (some ⟨bq4_0_5, 0, none⟩), .map (some rq4_1_1), vq4_2_3]) rfl (by simp only [List.map_cons, List.map_nil, ocq4_3_1.2] <;> rfl) (by kernel_rfl)) ?_
          refine TA.back (.inr (fun _ s => Sat.by [] 0 4 (by kernel_rfl) s)) ?_
          refine TA.all1 (i := 4) (by kernel_rfl) ?_
          refine TB.of rfl ?_
          refine TO.box (cs := [.pointer (some ⟨bq4_0_5, 0, none⟩), .map (some rq4_1_1), vq4_2_3]) rfl rfl rfl fun bq4_4_1 => ?_
          refine TA.back (.inr (fun _ s => Sat.by [] 0 5 (by kernel_rfl) s)) ?_
          refine TA.asL (L' := (Bx bq4_4_1 88 [.pointer (some ⟨bq4_0_5, 0, none⟩), .map (some rq4_1_1), vq4_2_3] :: MF (fun k : Int × Int × ByteArray => .agg #[I k.1, I k.2.1, .string k.2.2]) (fun x : Bool => .bool x) rq4_1_1 ((mzero : (Int × Int × ByteArray) → Option Bool)) :: SS 66 95 2 cTis vq4_2_3 hsq4_2_4 (yq4_2_1) :: Bx bq4_0_5 103 [.map (some rq4_0_3)] :: MF (fun k : ByteArray => .string k) (fun x : ByteArray × Int => .agg (cTsi x).toArray) rq4_0_3 (rq4_0_1) :: L)) (listed' := #[true, true, true, true, true, false]) (by kernel_rfl) (by kernel_rfl) ?_
          refine TA.takeW 5 rfl rfl rfl rfl (StepS.assign rfl) (by kernel_rfl) (by kernel_rfl) (by kernel_rfl) rfl (.inr (fun _ s => Sat.by [] 0 5 (by kernel_rfl) s)) ?_
          cases hj15
          refine TA.nil (by kernel_rfl) fun a w e s => ?_
          exact ⟨rq4_1_1, vq4_2_3, hsq4_2_4, rq4_0_3, bq4_4_1, bq4_0_5, e.sub (lk_of_allIn ⟨rfl, rfl, trivial⟩), s.mono fun _ s => (by exact Sat.by [3, 1, 4, 4, 4] 5 0 (by kernel_rfl) s)⟩
      · refine TB.of rfl ?_
        refine TO.mkMF (kf := (fun k : Int × Int × ByteArray => .agg #[I k.1, I k.2.1, .string k.2.2])) (vf := (fun x : Bool => .bool x)) rfl fun rq4_1_1 => ?_
        refine TA.back (.inr (fun _ s => Sat.by [] 0 1 (by kernel_rfl) s)) ?_
        refine TA.asL (L' := (MF (fun k : Int × Int × ByteArray => .agg #[I k.1, I k.2.1, .string k.2.2]) (fun x : Bool => .bool x) rq4_1_1 ((mzero : (Int × Int × ByteArray) → Option Bool)) :: L)) (listed' := #[false, true, false, false, false, false]) (by kernel_rfl) (by kernel_rfl) ?_
        refine TA.all2 (i := 0) (j := 2) (by kernel_rfl) ?_ ?_
        · refine TB.of rfl ?_
          refine TO.callO kcallB_26_true rfl rfl rfl (fun _ st => C26  hcq4_0_2 st) ?_
          rintro _ _ ⟨bq4_0_5, rq4_0_3, rfl, rfl⟩
          refine TA.back (.inr (fun _ s => Sat.by [] 0 3 (by kernel_rfl) s)) ?_
          refine TA.asL (L' := (Bx bq4_0_5 103 [.map (some rq4_0_3)] :: MF (fun k : ByteArray => .string k) (fun x : ByteArray × Int => .agg (cTsi x).toArray) rq4_0_3 (rq4_0_1) :: MF (fun k : Int × Int × ByteArray => .agg #[I k.1, I k.2.1, .string k.2.2]) (fun x : Bool => .bool x) rq4_1_1 ((mzero : (Int × Int × ByteArray) → Option Bool)) :: L)) (listed' := #[true, true, false, false, false, false]) (by kernel_rfl) (by kernel_rfl) ?_
          refine TA.all1 (i := 2) (by kernel_rfl) ?_
          refine TB.of rfl ?_
          refine TO.mkSSg (ee := 95) (sz := 2) (f := cTis) kelemB_60_66_1_24_true kinfo_66_bind_zero_some_slice_none_0_0 rfl rfl hkq4_2_2 rfl fun vq4_2_3 hsq4_2_4 => ?_
          refine TA.back (.inr (fun _ s => Sat.by [] 0 4 (by kernel_rfl) s)) ?_
          refine TA.asL (L' := (SS 66 95 2 cTis vq4_2_3 hsq4_2_4 (yq4_2_1) :: Bx bq4_0_5 103 [.map (some rq4_0_3)] :: MF (fun k : ByteArray => .string k) (fun x : ByteArray × Int => .agg (cTsi x).toArray) rq4_0_3 (rq4_0_1) :: MF (fun k : Int × Int × ByteArray => .agg #[I k.1, I k.2.1, .string k.2.2]) (fun x : Bool => .bool x) rq4_1_1 ((mzero : (Int × Int × ByteArray) → Option Bool)) :: L)) (listed' := #[true, true, true, false, false, false]) (by kernel_rfl) (by kernel_rfl) ?_
          refine TA.all1 (i := 3) (by kernel_rfl) ?_
          refine TB.of rfl ?_
          refine TO.pure (fun _ s => Rd.one (RR.top (SS.rr (Ent.at 0 rfl))) s) fun ocq4_3_1 => ?_
          refine TO.s rfl rfl rfl (StepS.buildS (us := [(0, .pointer (some ⟨bq4_0_5, 0, none⟩)), (1, .map (some rq4_1_1)), (2, .agg #[vq4_2_3])]) (cs := [.pointer (some ⟨bq4_0_5, 0, none⟩), .map (some rq4_1_1), vq4_2_3]) rfl (by simp only [List.map_cons, List.map_nil, ocq4_3_1.2] <;> rfl) (by kernel_rfl)) ?_
          refine TA.back (.inr (fun _ s => Sat.by [] 0 4 (by kernel_rfl) s)) ?_
          refine TA.all1 (i := 4) (by kernel_rfl) ?_
          refine TB.of rfl ?_
          refine TO.box (cs := [.pointer (some ⟨bq4_0_5, 0, none⟩), .map (some rq4_1_1), vq4_2_3]) rfl rfl rfl fun bq4_4_1 => ?_
          refine TA.back (.inr (fun _ s => Sat.by [] 0 5 (by kernel_rfl) s)) ?_
          refine TA.asL (L' := (Bx bq4_4_1 88 [.pointer (some ⟨bq4_0_5, 0, none⟩), .map (some rq4_1_1), vq4_2_3] :: SS 66 95 2 cTis vq4_2_3 hsq4_2_4 (yq4_2_1) :: Bx bq4_0_5 103 [.map (some rq4_0_3)] :: MF (fun k : ByteArray => .string k) (fun x : ByteArray × Int => .agg (cTsi x).toArray) rq4_0_3 (rq4_0_1) :: MF (fun k : Int × Int × ByteArray => .agg #[I k.1, I k.2.1, .string k.2.2]) (fun x : Bool => .bool x) rq4_1_1 ((mzero : (Int × Int × ByteArray) → Option Bool)) :: L)) (listed' := #[true, true, true, true, true, false]) (by kernel_rfl) (by kernel_rfl) ?_
          refine TA.takeW 5 rfl rfl rfl rfl (StepS.assign rfl) (by kernel_rfl) (by kernel_rfl) (by kernel_rfl) rfl (.inr (fun _ s => Sat.by [] 0 5 (by kernel_rfl) s)) ?_
          cases hj15
          refine TA.nil (by kernel_rfl) fun a w e s => ?_
          exact ⟨rq4_1_1, vq4_2_3, hsq4_2_4, rq4_0_3, bq4_4_1, bq4_0_5, e.sub (lk_of_allIn ⟨rfl, rfl, trivial⟩), s.mono fun _ s => (by exact Sat.by [2, 1, 3, 3, 4] 5 0 (by kernel_rfl) s)⟩
        · refine TB.of rfl ?_
          refine TO.mkSSg (ee := 95) (sz := 2) (f := cTis) kelemB_60_66_1_24_true kinfo_66_bind_zero_some_slice_none_0_0 rfl rfl hkq4_2_2 rfl fun vq4_2_3 hsq4_2_4 => ?_
          refine TA.back (.inr (fun _ s => Sat.by [] 0 2 (by kernel_rfl) s)) ?_
          refine TA.asL (L' := (SS 66 95 2 cTis vq4_2_3 hsq4_2_4 (yq4_2_1) :: MF (fun k : Int × Int × ByteArray => .agg #[I k.1, I k.2.1, .string k.2.2]) (fun x : Bool => .bool x) rq4_1_1 ((mzero : (Int × Int × ByteArray) → Option Bool)) :: L)) (listed' := #[false, true, true, false, false, false]) (by kernel_rfl) (by kernel_rfl) ?_
          refine TA.all1 (i := 0) (by kernel_rfl) ?_
          refine TB.of rfl ?_
          refine TO.callO kcallB_26_true rfl rfl rfl (fun _ st => C26  hcq4_0_2 st) ?_
          rintro _ _ ⟨bq4_0_5, rq4_0_3, rfl, rfl⟩
          refine TA.back (.inr (fun _ s => Sat.by [] 0 4 (by kernel_rfl) s)) ?_
          refine TA.asL (L' := (Bx bq4_0_5 103 [.map (some rq4_0_3)] :: MF (fun k : ByteArray => .string k) (fun x : ByteArray × Int => .agg (cTsi x).toArray) rq4_0_3 (rq4_0_1) :: SS 66 95 2 cTis vq4_2_3 hsq4_2_4 (yq4_2_1) :: MF (fun k : Int × Int × ByteArray => .agg #[I k.1, I k.2.1, .string k.2.2]) (fun x : Bool => .bool x) rq4_1_1 ((mzero : (Int × Int × ByteArray) → Option Bool)) :: L)) (listed' := #[true, true, true, false, false, false]) (by kernel_rfl) (by kernel_rfl) ?_
          refine TA.all1 (i := 3) (by kernel_rfl) ?_
          refine TB.of rfl ?_
          refine TO.pure (fun _ s => Rd.one (RR.top (SS.rr (Ent.at 2 rfl))) s) fun ocq4_3_1 => ?_
          refine TO.s rfl rfl rfl (StepS.buildS (us := [(0, .pointer (some ⟨bq4_0_5, 0, none⟩)), (1, .map (some rq4_1_1)), (2, .agg #[vq4_2_3])]) (cs := [.pointer (some ⟨bq4_0_5, 0, none⟩), .map (some rq4_1_1), vq4_2_3]) rfl (by simp only [List.map_cons, List.map_nil, ocq4_3_1.2] <;> rfl) (by kernel_rfl)) ?_
          refine TA.back (.inr (fun _ s => Sat.by [] 0 4 (by kernel_rfl) s)) ?_
          refine TA.all1 (i := 4) (by kernel_rfl) ?_
          refine TB.of rfl ?_
          refine TO.box (cs := [.pointer (some ⟨bq4_0_5, 0, none⟩), .map (some rq4_1_1), vq4_2_3]) rfl rfl rfl fun bq4_4_1 => ?_
          refine TA.back (.inr (fun _ s => Sat.by [] 0 5 (by kernel_rfl) s)) ?_
          refine TA.asL (L' := (Bx bq4_4_1 88 [.pointer (some ⟨bq4_0_5, 0, none⟩), .map (some rq4_1_1), vq4_2_3] :: Bx bq4_0_5 103 [.map (some rq4_0_3)] :: MF (fun k : ByteArray => .string k) (fun x : ByteArray × Int => .agg (cTsi x).toArray) rq4_0_3 (rq4_0_1) :: SS 66 95 2 cTis vq4_2_3 hsq4_2_4 (yq4_2_1) :: MF (fun k : Int × Int × ByteArray => .agg #[I k.1, I k.2.1, .string k.2.2]) (fun x : Bool => .bool x) rq4_1_1 ((mzero : (Int × Int × ByteArray) → Option Bool)) :: L)) (listed' := #[true, true, true, true, true, false]) (by kernel_rfl) (by kernel_rfl) ?_
          refine TA.takeW 5 rfl rfl rfl rfl (StepS.assign rfl) (by kernel_rfl) (by kernel_rfl) (by kernel_rfl) rfl (.inr (fun _ s => Sat.by [] 0 5 (by kernel_rfl) s)) ?_
          cases hj15
          refine TA.nil (by kernel_rfl) fun a w e s => ?_
          exact ⟨rq4_1_1, vq4_2_3, hsq4_2_4, rq4_0_3, bq4_4_1, bq4_0_5, e.sub (lk_of_allIn ⟨rfl, rfl, trivial⟩), s.mono fun _ s => (by exact Sat.by [1, 1, 2, 3, 4] 5 0 (by kernel_rfl) s)⟩
      · refine TB.of rfl ?_
        refine TO.mkSSg (ee := 95) (sz := 2) (f := cTis) kelemB_60_66_1_24_true kinfo_66_bind_zero_some_slice_none_0_0 rfl rfl hkq4_2_2 rfl fun vq4_2_3 hsq4_2_4 => ?_
        refine TA.back (.inr (fun _ s => Sat.by [] 0 1 (by kernel_rfl) s)) ?_
        refine TA.asL (L' := (SS 66 95 2 cTis vq4_2_3 hsq4_2_4 (yq4_2_1) :: L)) (listed' := #[false, false, true, false, false, false]) (by kernel_rfl) (by kernel_rfl) ?_
        refine TA.all2 (i := 0) (j := 1) (by kernel_rfl) ?_ ?_
        · refine TB.of rfl ?_
          refine TO.callO kcallB_26_true rfl rfl rfl (fun _ st => C26  hcq4_0_2 st) ?_
          rintro _ _ ⟨bq4_0_5, rq4_0_3, rfl, rfl⟩
          refine TA.back (.inr (fun _ s => Sat.by [] 0 3 (by kernel_rfl) s)) ?_
          refine TA.asL (L' := (Bx bq4_0_5 103 [.map (some rq4_0_3)] :: MF (fun k : ByteArray => .string k) (fun x : ByteArray × Int => .agg (cTsi x).toArray) rq4_0_3 (rq4_0_1) :: SS 66 95 2 cTis vq4_2_3 hsq4_2_4 (yq4_2_1) :: L)) (listed' := #[true, false, true, false, false, false]) (by kernel_rfl) (by kernel_rfl) ?_
          refine TA.all1 (i := 1) (by kernel_rfl) ?_
          refine TB.of rfl ?_
          refine TO.mkMF (kf := (fun k : Int × Int × ByteArray => .agg #[I k.1, I k.2.1, .string k.2.2])) (vf := (fun x : Bool => .bool x)) rfl fun rq4_1_1 => ?_
          refine TA.back (.inr (fun _ s => Sat.by [] 0 4 (by kernel_rfl) s)) ?_
          refine TA.asL (L' := (MF (fun k : Int × Int × ByteArray => .agg #[I k.1, I k.2.1, .string k.2.2]) (fun x : Bool => .bool x) rq4_1_1 ((mzero : (Int × Int × ByteArray) → Option Bool)) :: Bx bq4_0_5 103 [.map (some rq4_0_3)] :: MF (fun k : ByteArray => .string k) (fun x : ByteArray × Int => .agg (cTsi x).toArray) rq4_0_3 (rq4_0_1) :: SS 66 95 2 cTis vq4_2_3 hsq4_2_4 (yq4_2_1) :: L)) (listed' := #[true, true, true, false, false, false]) (by kernel_rfl) (by kernel_rfl) ?_
          refine TA.all1 (i := 3) (by kernel_rfl) ?_
          refine TB.of rfl ?_
          refine TO.pure (fun _ s => Rd.one (RR.top (SS.rr (Ent.at 3 rfl))) s) fun ocq4_3_1 => ?_
          refine TO.s rfl rfl rfl (StepS.buildS (us := [(0, .pointer (some ⟨bq4_0_5, 0, none⟩)), (1, .map (some rq4_1_1)), (2, .agg #[vq4_2_3])]) (cs := [.pointer (some ⟨bq4_0_5, 0, none⟩), .map (some rq4_1_1), vq4_2_3]) rfl (by simp only [List.map_cons, List.map_nil, ocq4_3_1.2] <;> rfl) (by kernel_rfl)) ?_
          refine TA.back (.inr (fun _ s => Sat.by [] 0 4 (by kernel_rfl) s)) ?_
          refine TA.all1 (i := 4) (by kernel_rfl) ?_
          refine TB.of rfl ?_
          refine TO.box (cs := [.pointer (some ⟨bq4_0_5, 0, none⟩), .map (some rq4_1_1), vq4_2_3]) rfl rfl rfl fun bq4_4_1 => ?_
          refine TA.back (.inr (fun _ s => Sat.by [] 0 5 (by kernel_rfl) s)) ?_
          refine TA.asL (L' := (Bx bq4_4_1 88 [.pointer (some ⟨bq4_0_5, 0, none⟩), .map (some rq4_1_1), vq4_2_3] :: MF (fun k : Int × Int × ByteArray => .agg #[I k.1, I k.2.1, .string k.2.2]) (fun x : Bool => .bool x) rq4_1_1 ((mzero : (Int × Int × ByteArray) → Option Bool)) :: Bx bq4_0_5 103 [.map (some rq4_0_3)] :: MF (fun k : ByteArray => .string k) (fun x : ByteArray × Int => .agg (cTsi x).toArray) rq4_0_3 (rq4_0_1) :: SS 66 95 2 cTis vq4_2_3 hsq4_2_4 (yq4_2_1) :: L)) (listed' := #[true, true, true, true, true, false]) (by kernel_rfl) (by kernel_rfl) ?_
          refine TA.takeW 5 rfl rfl rfl rfl (StepS.assign rfl) (by kernel_rfl) (by kernel_rfl) (by kernel_rfl) rfl (.inr (fun _ s => Sat.by [] 0 5 (by kernel_rfl) s)) ?_
          cases hj15
          refine TA.nil (by kernel_rfl) fun a w e s => ?_
          exact ⟨rq4_1_1, vq4_2_3, hsq4_2_4, rq4_0_3, bq4_4_1, bq4_0_5, e.sub (lk_of_allIn ⟨rfl, rfl, trivial⟩), s.mono fun _ s => (by exact Sat.by [2, 1, 3, 4, 4] 5 0 (by kernel_rfl) s)⟩
        · refine TB.of rfl ?_
          refine TO.mkMF (kf := (fun k : Int × Int × ByteArray => .agg #[I k.1, I k.2.1, .string k.2.2])) (vf := (fun x : Bool => .bool x)) rfl fun rq4_1_1 => ?_
          refine TA.back (.inr (fun _ s => Sat.by [] 0 2 (by kernel_rfl) s)) ?_
          refine TA.asL (L' := (MF (fun k : Int × Int × ByteArray => .agg #[I k.1, I k.2.1, .string k.2.2]) (fun x : Bool => .bool x) rq4_1_1 ((mzero : (Int × Int × ByteArray) → Option Bool)) :: SS 66 95 2 cTis vq4_2_3 hsq4_2_4 (yq4_2_1) :: L)) (listed' := #[false, true, true, false, false, false]) (by kernel_rfl) (by kernel_rfl) ?_
          refine TA.all1 (i := 0) (by kernel_rfl) ?_
          refine TB.of rfl ?_
          refine TO.callO kcallB_26_true rfl rfl rfl (fun _ st => C26  hcq4_0_2 st) ?_
          rintro _ _ ⟨bq4_0_5, rq4_0_3, rfl, rfl⟩
          refine TA.back (.inr (fun _ s => Sat.by [] 0 4 (by kernel_rfl) s)) ?_
          refine TA.asL (L' := (Bx bq4_0_5 103 [.map (some rq4_0_3)] :: MF (fun k : ByteArray => .string k) (fun x : ByteArray × Int => .agg (cTsi x).toArray) rq4_0_3 (rq4_0_1) :: MF (fun k : Int × Int × ByteArray => .agg #[I k.1, I k.2.1, .string k.2.2]) (fun x : Bool => .bool x) rq4_1_1 ((mzero : (Int × Int × ByteArray) → Option Bool)) :: SS 66 95 2 cTis vq4_2_3 hsq4_2_4 (yq4_2_1) :: L)) (listed' := #[true, true, true, false, false, false]) (by kernel_rfl) (by kernel_rfl) ?_
          refine TA.all1 (i := 3) (by kernel_rfl) ?_
          refine TB.of rfl ?_
          refine TO.pure (fun _ s => Rd.one (RR.top (SS.rr (Ent.at 3 rfl))) s) fun ocq4_3_1 => ?_
          refine TO.s rfl rfl rfl (StepS.buildS (us := [(0, .pointer (some ⟨bq4_0_5, 0, none⟩)), (1, .map (some rq4_1_1)), (2, .agg #[vq4_2_3])]) (cs := [.pointer (some ⟨bq4_0_5, 0, none⟩), .map (some rq4_1_1), vq4_2_3]) rfl (by simp only [List.map_cons, List.map_nil, ocq4_3_1.2] <;> rfl) (by kernel_rfl)) ?_
          refine TA.back (.inr (fun _ s => Sat.by [] 0 4 (by kernel_rfl) s)) ?_
          refine TA.all1 (i := 4) (by kernel_rfl) ?_
          refine TB.of rfl ?_
          refine TO.box (cs := [.pointer (some ⟨bq4_0_5, 0, none⟩), .map (some rq4_1_1), vq4_2_3]) rfl rfl rfl fun bq4_4_1 => ?_
          refine TA.back (.inr (fun _ s => Sat.by [] 0 5 (by kernel_rfl) s)) ?_
          refine TA.asL (L' := (Bx bq4_4_1 88 [.pointer (some ⟨bq4_0_5, 0, none⟩), .map (some rq4_1_1), vq4_2_3] :: Bx bq4_0_5 103 [.map (some rq4_0_3)] :: MF (fun k : ByteArray => .string k) (fun x : ByteArray × Int => .agg (cTsi x).toArray) rq4_0_3 (rq4_0_1) :: MF (fun k : Int × Int × ByteArray => .agg #[I k.1, I k.2.1, .string k.2.2]) (fun x : Bool => .bool x) rq4_1_1 ((mzero : (Int × Int × ByteArray) → Option Bool)) :: SS 66 95 2 cTis vq4_2_3 hsq4_2_4 (yq4_2_1) :: L)) (listed' := #[true, true, true, true, true, false]) (by kernel_rfl) (by kernel_rfl) ?_
          refine TA.takeW 5 rfl rfl rfl rfl (StepS.assign rfl) (by kernel_rfl) (by kernel_rfl) (by kernel_rfl) rfl (.inr (fun _ s => Sat.by [] 0 5 (by kernel_rfl) s)) ?_
          cases hj15
          refine TA.nil (by kernel_rfl) fun a w e s => ?_
          exact ⟨rq4_1_1, vq4_2_3, hsq4_2_4, rq4_0_3, bq4_4_1, bq4_0_5, e.sub (lk_of_allIn ⟨rfl, rfl, trivial⟩), s.mono fun _ s => (by exact Sat.by [1, 1, 2, 4, 4] 5 0 (by kernel_rfl) s)⟩
    · intro a w ⟨r6, v8, hs9, r13, bq4_4_1, bq4_0_5, he, hs⟩
      refine TC.use ?_ he hs
      refine TC.k ?_
      refine TC.region ?_
      refine TO.s rfl rfl rfl (StepS.assign rfl) ?_
      refine TO.code ?_
      refine TC.k ?_
      refine TC.k ?_
      refine TC.region ?_
      refine TO.s rfl rfl rfl (StepS.move rfl) ?_
      refine TO.s rfl rfl rfl (StepS.lenm rfl e0.tl.tl.tl.tl.tl ksliceB_59_90_6_true rfl) ?_
      refine TO.s rfl rfl rfl (StepS.move rfl) ?_
      refine TO.code ?_
      obtain ⟨o54, hw55, hm⟩ := bind_some hm
      refine TC.loop hw55 (fun (y19, y22, y25, y26, x28) => fun a w => ∃ v16 : Value, ∃ hs17 : List (List Value), ∃ r21 : Nat, ∃ r24 : Nat, ∃ hs27 : List Value, Mid 81 B [(5, .pointer (some ⟨bq4_4_1, 0, none⟩)), (6, v16), (18, h0), (19, I (a0.length : Int)), (20, I x28)] (SN 41 4 nT41 v16 hs17 (y19) :: MF (fun k : Int × Int × ByteArray => .agg #[I k.1, I k.2.1, .string k.2.2]) (fun x : Bool => .bool x) r21 (y22) :: MF (fun k : ByteArray => .string k) (fun x : ByteArray × Int => .agg (cTsi x).toArray) r24 (y25) :: SS 66 95 2 cTis v8 hs27 (y26) :: Bx bq4_4_1 88 [.pointer (some ⟨bq4_0_5, 0, none⟩), .map (some r21), v8] :: Bx bq4_0_5 103 [.map (some r24)] :: L) a w) (fun (y45, y48, y51, y52) => fun a w => ∃ v42 : Value, ∃ hs43 : List (List Value), ∃ r47 : Nat, ∃ r50 : Nat, ∃ hs53 : List Value, Mid 81 B [(5, .pointer (some ⟨bq4_4_1, 0, none⟩)), (6, v42)] (SN 41 4 nT41 v42 hs43 (y45) :: MF (fun k : Int × Int × ByteArray => .agg #[I k.1, I k.2.1, .string k.2.2]) (fun x : Bool => .bool x) r47 (y48) :: MF (fun k : ByteArray => .string k) (fun x : ByteArray × Int => .agg (cTsi x).toArray) r50 (y51) :: SS 66 95 2 cTis v8 hs53 (y52) :: Bx bq4_4_1 88 [.pointer (some ⟨bq4_0_5, 0, none⟩), .map (some r47), v8] :: Bx bq4_0_5 103 [.map (some r50)] :: L) a w) (fun (_ : Unit) _ _ => False) ?_ ?_ ?_ ?_
      · rintro ⟨y19, y22, y25, y26, x28⟩ o54r hb56 a w ⟨v16, hs17, r21, r24, hs27, he, hs⟩
        dsimp only [F22_L0] at hb56
        refine TC.use ?_ he hs
        refine TC.k ?_
        refine TC.region ?_
        refine TO.s rfl rfl rfl (StepS.cmp rfl rfl rfl) ?_
        refine TO.code ?_
        refine TC.k ?_
        refine TC.cond rfl (fun hc57 => ?_) (fun hc57 => ?_)
        · replace hb56 := cond_t hc57 hb56
          refine TC.skipk ?_
          refine TC.k ?_
          obtain ⟨⟨y60, y63, y64, y67⟩, hj69, hb56⟩ := bind_some hb56
          first | refine TC.cutM (fun a w => ∃ r59 : Nat, ∃ r62 : Nat, ∃ v65 : Value, ∃ hs66 : List (List Value), ∃ hs68 : List Value, Mid 81 B [(5, .pointer (some ⟨bq4_4_1, 0, none⟩)), (6, v65), (18, h0), (19, I (a0.length : Int)), (20, I x28)] (MF (fun k : Int × Int × ByteArray => .agg #[I k.1, I k.2.1, .string k.2.2]) (fun x : Bool => .bool x) r59 (y60) :: MF (fun k : ByteArray => .string k) (fun x : ByteArray × Int => .agg (cTsi x).toArray) r62 (y63) :: SN 41 4 nT41 v65 hs66 (y64) :: SS 66 95 2 cTis v8 hs68 (y67) :: Bx bq4_4_1 88 [.pointer (some ⟨bq4_0_5, 0, none⟩), .map (some r59), v8] :: Bx bq4_0_5 103 [.map (some r62)] :: L) a w) ?_ ?_ | refine TC.cutX (fun a w => ∃ r59 : Nat, ∃ r62 : Nat, ∃ v65 : Value, ∃ hs66 : List (List Value), ∃ hs68 : List Value, Mid 81 B [(5, .pointer (some ⟨bq4_4_1, 0, none⟩)), (6, v65), (18, h0), (19, I (a0.length : Int)), (20, I x28)] (MF (fun k : Int × Int × ByteArray => .agg #[I k.1, I k.2.1, .string k.2.2]) (fun x : Bool => .bool x) r59 (y60) :: MF (fun k : ByteArray => .string k) (fun x : ByteArray × Int => .agg (cTsi x).toArray) r62 (y63) :: SN 41 4 nT41 v65 hs66 (y64) :: SS 66 95 2 cTis v8 hs68 (y67) :: Bx bq4_4_1 88 [.pointer (some ⟨bq4_0_5, 0, none⟩), .map (some r59), v8] :: Bx bq4_0_5 103 [.map (some r62)] :: L) a w) ?_ ?_
          · refine TC.block ?_
            refine TC.k ?_
            refine TC.region ?_
            obtain ⟨x70, hx71, hj69⟩ := bind_some hj69
            refine TO.s rfl rfl rfl (StepS.idx rfl rfl e0.tl.tl.tl.tl.tl.tl ksliceB_59_90_6_true (idx_spec hx71).1 (idxm_lt hx71)) ?_
            refine TO.s rfl rfl rfl (StepS.ldE rfl e0.tl.tl.tl.tl.tl.tl kaggB_90_6_true rfl (idxm hx71)) ?_
            refine TO.alloc kinfo_90_bind_zero_some_agg_I_0_bool_false_I_0_string_ByteArray_empty_string_ByteArray_empty_I_0 rfl rfl fun b72 => ?_
            refine TO.stB (us := [I x70.1, .bool x70.2.1, I x70.2.2.1, .string x70.2.2.2.1, .string x70.2.2.2.2.1, I x70.2.2.2.2.2]) 0 [I x70.1, .bool x70.2.1, I x70.2.2.1, .string x70.2.2.2.1, .string x70.2.2.2.2.1, I x70.2.2.2.2.2] rfl rfl rfl ksizeB_90_6_true rfl rfl rfl (by simp [Value.oneCell']) rfl ?_
            refine TO.code ?_
            refine TC.k ?_
            refine TC.k ?_
            refine TC.region ?_
            refine TO.s rfl rfl rfl (StepS.fld rfl kfieldB_90_0_0_true) ?_
            refine TO.s rfl rfl rfl (StepS.ldB rfl (Ent.at 0 rfl) kscalB_3_true rfl) ?_
            refine TO.s rfl rfl rfl (StepS.cmp rfl rfl rfl) ?_
            refine TO.s rfl rfl rfl (StepS.move rfl) ?_
            refine TO.mid1 4 31 (.bool ((decide (x70.1 < 0)) || (decide (x70.1 ≥ 6)))) ?_ ?_
            · refine bcase ((decide (x70.1 < 0))) (fun hb73 => ?_) (fun hb73 => ?_)
              · refine TO.skip rfl rfl rfl (skipT hb73) rfl rfl ?_
                refine TO.skip rfl rfl rfl (skipT hb73) rfl rfl ?_
                refine TO.skip rfl rfl rfl (skipT hb73) rfl rfl ?_
                refine TO.s rfl rfl rfl (StepS.pickT rfl hb73 rfl) ?_
                exact TO.up1 4 0 rfl rfl (by rw [hb73]; rfl) rfl
              · refine TO.sw rfl rfl rfl hb73 rfl rfl (StepS.fld rfl kfieldB_90_0_0_true) ?_
                refine TO.sw rfl rfl rfl hb73 rfl rfl (StepS.ldB rfl (Ent.at 0 rfl) kscalB_3_true rfl) ?_
                refine TO.sw rfl rfl rfl hb73 rfl rfl (StepS.cmp rfl rfl rfl) ?_
                refine TO.s rfl rfl rfl (StepS.pickF rfl hb73 rfl) ?_
                exact TO.up1 4 0 rfl rfl (by rw [hb73]; rfl) rfl
            refine TO.code ?_
            refine TC.cond rfl (fun hc74 => ?_) (fun hc74 => ?_)
            · replace hj69 := cond_t hc74 hj69
              refine TC.k ?_
              refine TC.region ?_
              refine TO.s rfl rfl rfl (StepS.move rfl) ?_
              refine TO.s rfl rfl rfl (StepS.build (cs := [I 2, .string ByteArray.empty, I 0, .slice none 0 0]) rfl (by kernel_rfl)) ?_
              refine TO.litS (f := fun (_ : Unit) => [I 2, .string ByteArray.empty, I 0, .slice none 0 0]) [()] kelemB_23_41_4_56_true kinfo_41_bind_zero_some_agg_I_0_string_ByteArray_empty_I_0_slice_none_0_0 rfl rfl (fun _ => rfl) rfl rfl (by kernel_rfl) rfl fun v75 => ?_
              refine TO.ghost (fun _ => Sat.nilS (e := 9) (sz := 1) (f := cS)) ?_
              refine TO.pure (fun _ s => Rd.one (OwnS.rd (Ent.at 0 rfl)) s) fun oc78 => ?_
              refine TO.ghost (fun _ s => Sat.front 3 rfl s) ?_
              refine TO.ghost (fun _ s => Sat.front 1 rfl s) ?_
              obtain ⟨y79, hk80, hj69⟩ := bind_some hj69
              refine TO.appN (T := nT41) (z := (2, ByteArray.empty, 0, ([] : List (ByteArray)))) [(.slice none 0 0)] rfl kelemB_23_41_4_56_true (by decide) rfl rfl (OwnS.rd (Ent.at 0 rfl)) hk80 (by intro u hu; have hu : u ∈ [I 2, .string ByteArray.empty, I 0, (.slice none 0 0)] := hu; simp only [List.mem_cons, List.not_mem_nil, or_false] at hu; rcases hu with rfl | rfl | rfl | rfl <;> first | rfl | exact oc78.1) rfl rfl fun v81 hs82 => ?_
              refine TO.ghost (fun _ s => Sat.erase 1 s) ?_
              refine TO.s rfl rfl rfl (StepS.assign rfl) ?_
              refine TO.code ?_
              cases hj69
              refine TC.exit rfl fun a w e s => ?_
              exact ⟨r21, r24, v81, hs82, hs27, e.sub (lk_of_allIn ⟨rfl, rfl, rfl, rfl, rfl, trivial⟩), s.mono fun _ s => (by exact Sat.by [6, 6, 6, 3, 6, 6] 6 1 (by kernel_rfl) s)⟩
            · replace hj69 := cond_f hc74 hj69
              refine TC.skipk ?_
              refine TC.k ?_
              obtain ⟨⟨y86, y89, x90, t91, x92⟩, hj93, hj69⟩ := bind_some hj69
              first | refine TC.cutM (fun a w => ∃ r85 : Nat, ∃ v87 : Value, ∃ bq83_7_1 : Nat, Mid 81 B [(5, .pointer (some ⟨bq4_4_1, 0, none⟩)), (6, v16), (8, .pointer (some ⟨b72, 0, none⟩)), (9, .pointer (some ⟨bq83_7_1, 0, none⟩)), (18, h0), (19, I (a0.length : Int)), (20, I x28)] (MF (fun k : ByteArray => .string k) (fun x : ByteArray × Int => .agg (cTsi x).toArray) r85 (y86) :: OwnS 9 1 v87 (y89.map cS) :: Bx bq83_7_1 41 [I x90, .string t91, I x92, v87] :: Bx b72 90 [I x70.1, .bool x70.2.1, I x70.2.2.1, .string x70.2.2.2.1, .string x70.2.2.2.2.1, I x70.2.2.2.2.2] :: SN 41 4 nT41 v16 hs17 (y19) :: MF (fun k : Int × Int × ByteArray => .agg #[I k.1, I k.2.1, .string k.2.2]) (fun x : Bool => .bool x) r21 (y22) :: SS 66 95 2 cTis v8 hs27 (y26) :: Bx bq4_4_1 88 [.pointer (some ⟨bq4_0_5, 0, none⟩), .map (some r21), v8] :: Bx bq4_0_5 103 [.map (some r85)] :: L) a w) ?_ ?_ | refine TC.cutX (fun a w => ∃ r85 : Nat, ∃ v87 : Value, ∃ bq83_7_1 : Nat, Mid 81 B [(5, .pointer (some ⟨bq4_4_1, 0, none⟩)), (6, v16), (8, .pointer (some ⟨b72, 0, none⟩)), (9, .pointer (some ⟨bq83_7_1, 0, none⟩)), (18, h0), (19, I (a0.length : Int)), (20, I x28)] (MF (fun k : ByteArray => .string k) (fun x : ByteArray × Int => .agg (cTsi x).toArray) r85 (y86) :: OwnS 9 1 v87 (y89.map cS) :: Bx bq83_7_1 41 [I x90, .string t91, I x92, v87] :: Bx b72 90 [I x70.1, .bool x70.2.1, I x70.2.2.1, .string x70.2.2.2.1, .string x70.2.2.2.2.1, I x70.2.2.2.2.2] :: SN 41 4 nT41 v16 hs17 (y19) :: MF (fun k : Int × Int × ByteArray => .agg #[I k.1, I k.2.1, .string k.2.2]) (fun x : Bool => .bool x) r21 (y22) :: SS 66 95 2 cTis v8 hs27 (y26) :: Bx bq4_4_1 88 [.pointer (some ⟨bq4_0_5, 0, none⟩), .map (some r21), v8] :: Bx bq4_0_5 103 [.map (some r85)] :: L) a w) ?_ ?_
              · obtain ⟨⟨rq83_6_1, rq83_6_2⟩, hcq83_6_3, hj93⟩ := bind_some hj93
                refine TC.region_any (Bx b72 90 [I x70.1, .bool x70.2.1, I x70.2.2.1, .string x70.2.2.2.1, .string x70.2.2.2.2.1, I x70.2.2.2.2.2] :: SN 41 4 nT41 v16 hs17 (y19) :: MF (fun k : Int × Int × ByteArray => .agg #[I k.1, I k.2.1, .string k.2.2]) (fun x : Bool => .bool x) r21 (y22) :: SS 66 95 2 cTis v8 hs27 (y26) :: Bx bq4_4_1 88 [.pointer (some ⟨bq4_0_5, 0, none⟩), .map (some r21), v8] :: L) 8 9 kfollows_mixedOrders_true rfl ?_
                refine TA.takeW 0 rfl rfl rfl rfl (StepS.move rfl) (by kernel_rfl) (by kernel_rfl) (by kernel_rfl) rfl (.inr (fun _ s => Sat.by [5, 5, 4, 4, 4] 5 2 (by kernel_rfl) s)) ?_
                refine TA.takeW 1 rfl rfl rfl rfl (StepS.nilc rfl) (by kernel_rfl) (by kernel_rfl) (by kernel_rfl) rfl (.inr (fun _ s => Sat.by [5, 5, 4, 4, 4] 5 2 (by kernel_rfl) s)) ?_
                refine TA.takeW 2 rfl rfl rfl rfl (StepS.fld rfl kfieldB_88_0_0_true) (by kernel_rfl) (by kernel_rfl) (by kernel_rfl) rfl (.inr (fun _ s => Sat.by [5, 5, 4, 4, 4] 5 2 (by kernel_rfl) s)) ?_
                refine TA.take 3 rfl rfl rfl rfl (StepS.ldB rfl (Ent.at 4 rfl) kscalB_74_true rfl) (by kernel_rfl) (by kernel_rfl) (by kernel_rfl) (by kernel_rfl) (by kernel_rfl) (fun _ s => Sat.by [5, 5, 4, 4, 4] 5 2 (by kernel_rfl) s) ?_
                refine TA.takeW 4 rfl rfl rfl rfl (StepS.fld rfl kfieldB_90_2_2_true) (by kernel_rfl) (by kernel_rfl) (by kernel_rfl) rfl (.inr (fun _ s => Sat.by [5, 5, 4, 4, 4] 5 2 (by kernel_rfl) s)) ?_
                refine TA.take 5 rfl rfl rfl rfl (StepS.ldBA rfl (Ent.at 0 rfl) kaggB_45_4_true rfl rfl) (by kernel_rfl) (by kernel_rfl) (by kernel_rfl) (by kernel_rfl) (by kernel_rfl) (fun _ s => Sat.by [5, 5, 4, 4, 4] 5 2 (by kernel_rfl) s) ?_
                refine TA.all2 (i := 6) (j := 7) (by kernel_rfl) ?_ ?_
                · refine TB.of rfl ?_
                  refine TO.ghost (fun _ s => Sat.front 3 rfl s) ?_
                  refine TO.ghost (fun _ s => Sat.front 6 rfl s) ?_
                  refine TO.callO kcallB_29_true rfl rfl rfl (fun _ st => C29 (a0 := y25)  hcq83_6_3 st) ?_
                  rintro _ _ ⟨rq83_6_4, vq83_6_6, rfl, rfl⟩
                  refine TA.back (.inr (fun _ s => Sat.by [7, 7, 7, 7, 7] 5 3 (by kernel_rfl) s)) ?_
                  refine TA.asL (L' := (Bx bq4_0_5 103 [.map (some rq83_6_4)] :: MF (fun k : ByteArray => .string k) (fun x : ByteArray × Int => .agg (cTsi x).toArray) rq83_6_4 (rq83_6_2) :: OwnS 9 1 vq83_6_6 (rq83_6_1.2.2.2.map cS) :: Bx b72 90 [I x70.1, .bool x70.2.1, I x70.2.2.1, .string x70.2.2.2.1, .string x70.2.2.2.2.1, I x70.2.2.2.2.2] :: SN 41 4 nT41 v16 hs17 (y19) :: MF (fun k : Int × Int × ByteArray => .agg #[I k.1, I k.2.1, .string k.2.2]) (fun x : Bool => .bool x) r21 (y22) :: SS 66 95 2 cTis v8 hs27 (y26) :: Bx bq4_4_1 88 [.pointer (some ⟨bq4_0_5, 0, none⟩), .map (some r21), v8] :: L)) (listed' := #[true, true, true, true, true, true, true, false, false]) (by kernel_rfl) (by kernel_rfl) ?_
                  refine TA.all1 (i := 7) (by kernel_rfl) ?_
                  refine TB.of rfl ?_
                  refine TO.alloc kinfo_41_bind_zero_some_agg_I_0_string_ByteArray_empty_I_0_slice_none_0_0 rfl rfl fun bq83_7_1 => ?_
                  refine TA.back (.inr (fun _ s => Sat.by [8, 8, 8, 8, 8] 5 4 (by kernel_rfl) s)) ?_
                  refine TA.asL (L' := (Bx bq83_7_1 41 [I 0, .string ByteArray.empty, I 0, .slice none 0 0] :: Bx bq4_0_5 103 [.map (some rq83_6_4)] :: MF (fun k : ByteArray => .string k) (fun x : ByteArray × Int => .agg (cTsi x).toArray) rq83_6_4 (rq83_6_2) :: OwnS 9 1 vq83_6_6 (rq83_6_1.2.2.2.map cS) :: Bx b72 90 [I x70.1, .bool x70.2.1, I x70.2.2.1, .string x70.2.2.2.1, .string x70.2.2.2.2.1, I x70.2.2.2.2.2] :: SN 41 4 nT41 v16 hs17 (y19) :: MF (fun k : Int × Int × ByteArray => .agg #[I k.1, I k.2.1, .string k.2.2]) (fun x : Bool => .bool x) r21 (y22) :: SS 66 95 2 cTis v8 hs27 (y26) :: Bx bq4_4_1 88 [.pointer (some ⟨bq4_0_5, 0, none⟩), .map (some r21), v8] :: L)) (listed' := #[true, true, true, true, true, true, true, true, false]) (by kernel_rfl) (by kernel_rfl) ?_
                  refine TA.all1 (i := 8) (by kernel_rfl) ?_
                  refine TB.of rfl ?_
                  refine TO.pure (fun _ s => Rd.one (OwnS.rd (Ent.at 3 rfl)) s) fun ocq83_8_1 => ?_
                  refine TO.stB (us := [I rq83_6_1.1, .string rq83_6_1.2.1, I rq83_6_1.2.2.1, vq83_6_6]) 0 [I rq83_6_1.1, .string rq83_6_1.2.1, I rq83_6_1.2.2.1, vq83_6_6] rfl rfl rfl ksizeB_41_4_true rfl rfl rfl (by intro u hu; simp only [List.mem_cons, List.not_mem_nil, or_false] at hu; rcases hu with rfl | rfl | rfl | rfl <;> first | exact ocq83_8_1.1 | rfl) rfl ?_
                  refine TA.back (.inl (by kernel_rfl)) ?_
                  refine TA.asL (L' := (Bx bq83_7_1 41 [I rq83_6_1.1, .string rq83_6_1.2.1, I rq83_6_1.2.2.1, vq83_6_6] :: Bx bq4_0_5 103 [.map (some rq83_6_4)] :: MF (fun k : ByteArray => .string k) (fun x : ByteArray × Int => .agg (cTsi x).toArray) rq83_6_4 (rq83_6_2) :: OwnS 9 1 vq83_6_6 (rq83_6_1.2.2.2.map cS) :: Bx b72 90 [I x70.1, .bool x70.2.1, I x70.2.2.1, .string x70.2.2.2.1, .string x70.2.2.2.2.1, I x70.2.2.2.2.2] :: SN 41 4 nT41 v16 hs17 (y19) :: MF (fun k : Int × Int × ByteArray => .agg #[I k.1, I k.2.1, .string k.2.2]) (fun x : Bool => .bool x) r21 (y22) :: SS 66 95 2 cTis v8 hs27 (y26) :: Bx bq4_4_1 88 [.pointer (some ⟨bq4_0_5, 0, none⟩), .map (some r21), v8] :: L)) (listed' := #[true, true, true, true, true, true, true, true, true]) (by kernel_rfl) (by kernel_rfl) ?_
                  cases hj93
                  refine TA.nil (by kernel_rfl) fun a w e s => ?_
                  exact ⟨rq83_6_4, vq83_6_6, bq83_7_1, e.sub (lk_of_allIn ⟨rfl, rfl, rfl, rfl, rfl, rfl, rfl, trivial⟩), s.mono fun _ s => (by exact Sat.by [1, 8, 8, 8, 8, 8, 6, 8, 8] 9 0 (by kernel_rfl) s)⟩
                · refine TB.of rfl ?_
                  refine TO.alloc kinfo_41_bind_zero_some_agg_I_0_string_ByteArray_empty_I_0_slice_none_0_0 rfl rfl fun bq83_7_1 => ?_
                  refine TA.back (.inr (fun _ s => Sat.by [6, 6, 5, 5, 5] 5 3 (by kernel_rfl) s)) ?_
                  refine TA.asL (L' := (Bx bq83_7_1 41 [I 0, .string ByteArray.empty, I 0, .slice none 0 0] :: Bx b72 90 [I x70.1, .bool x70.2.1, I x70.2.2.1, .string x70.2.2.2.1, .string x70.2.2.2.2.1, I x70.2.2.2.2.2] :: SN 41 4 nT41 v16 hs17 (y19) :: MF (fun k : Int × Int × ByteArray => .agg #[I k.1, I k.2.1, .string k.2.2]) (fun x : Bool => .bool x) r21 (y22) :: MF (fun k : ByteArray => .string k) (fun x : ByteArray × Int => .agg (cTsi x).toArray) r24 (y25) :: SS 66 95 2 cTis v8 hs27 (y26) :: Bx bq4_4_1 88 [.pointer (some ⟨bq4_0_5, 0, none⟩), .map (some r21), v8] :: Bx bq4_0_5 103 [.map (some r24)] :: L)) (listed' := #[true, true, true, true, true, true, false, true, false]) (by kernel_rfl) (by kernel_rfl) ?_
                  refine TA.all1 (i := 6) (by kernel_rfl) ?_
                  refine TB.of rfl ?_
                  refine TO.ghost (fun _ s => Sat.front 4 rfl s) ?_
                  refine TO.ghost (fun _ s => Sat.front 7 rfl s) ?_
                  refine TO.callO kcallB_29_true rfl rfl rfl (fun _ st => C29 (a0 := y25)  hcq83_6_3 st) ?_
                  rintro _ _ ⟨rq83_6_4, vq83_6_6, rfl, rfl⟩
                  refine TA.back (.inr (fun _ s => Sat.by [8, 8, 8, 8, 8] 5 4 (by kernel_rfl) s)) ?_
                  refine TA.asL (L' := (Bx bq4_0_5 103 [.map (some rq83_6_4)] :: MF (fun k : ByteArray => .string k) (fun x : ByteArray × Int => .agg (cTsi x).toArray) rq83_6_4 (rq83_6_2) :: OwnS 9 1 vq83_6_6 (rq83_6_1.2.2.2.map cS) :: Bx bq83_7_1 41 [I 0, .string ByteArray.empty, I 0, .slice none 0 0] :: Bx b72 90 [I x70.1, .bool x70.2.1, I x70.2.2.1, .string x70.2.2.2.1, .string x70.2.2.2.2.1, I x70.2.2.2.2.2] :: SN 41 4 nT41 v16 hs17 (y19) :: MF (fun k : Int × Int × ByteArray => .agg #[I k.1, I k.2.1, .string k.2.2]) (fun x : Bool => .bool x) r21 (y22) :: SS 66 95 2 cTis v8 hs27 (y26) :: Bx bq4_4_1 88 [.pointer (some ⟨bq4_0_5, 0, none⟩), .map (some r21), v8] :: L)) (listed' := #[true, true, true, true, true, true, true, true, false]) (by kernel_rfl) (by kernel_rfl) ?_
                  refine TA.all1 (i := 8) (by kernel_rfl) ?_
                  refine TB.of rfl ?_
                  refine TO.pure (fun _ s => Rd.one (OwnS.rd (Ent.at 2 rfl)) s) fun ocq83_8_1 => ?_
                  refine TO.stB (us := [I rq83_6_1.1, .string rq83_6_1.2.1, I rq83_6_1.2.2.1, vq83_6_6]) 3 [I rq83_6_1.1, .string rq83_6_1.2.1, I rq83_6_1.2.2.1, vq83_6_6] rfl rfl rfl ksizeB_41_4_true rfl rfl rfl (by intro u hu; simp only [List.mem_cons, List.not_mem_nil, or_false] at hu; rcases hu with rfl | rfl | rfl | rfl <;> first | exact ocq83_8_1.1 | rfl) rfl ?_
                  refine TA.back (.inl (by kernel_rfl)) ?_
                  refine TA.asL (L' := (Bx bq4_0_5 103 [.map (some rq83_6_4)] :: MF (fun k : ByteArray => .string k) (fun x : ByteArray × Int => .agg (cTsi x).toArray) rq83_6_4 (rq83_6_2) :: OwnS 9 1 vq83_6_6 (rq83_6_1.2.2.2.map cS) :: Bx bq83_7_1 41 [I rq83_6_1.1, .string rq83_6_1.2.1, I rq83_6_1.2.2.1, vq83_6_6] :: Bx b72 90 [I x70.1, .bool x70.2.1, I x70.2.2.1, .string x70.2.2.2.1, .string x70.2.2.2.2.1, I x70.2.2.2.2.2] :: SN 41 4 nT41 v16 hs17 (y19) :: MF (fun k : Int × Int × ByteArray => .agg #[I k.1, I k.2.1, .string k.2.2]) (fun x : Bool => .bool x) r21 (y22) :: SS 66 95 2 cTis v8 hs27 (y26) :: Bx bq4_4_1 88 [.pointer (some ⟨bq4_0_5, 0, none⟩), .map (some r21), v8] :: L)) (listed' := #[true, true, true, true, true, true, true, true, true]) (by kernel_rfl) (by kernel_rfl) ?_
                  cases hj93
                  refine TA.nil (by kernel_rfl) fun a w e s => ?_
                  exact ⟨rq83_6_4, vq83_6_6, bq83_7_1, e.sub (lk_of_allIn ⟨rfl, rfl, rfl, rfl, rfl, rfl, rfl, trivial⟩), s.mono fun _ s => (by exact Sat.by [0, 8, 8, 8, 8, 8, 8, 8, 8] 9 0 (by kernel_rfl) s)⟩
              · intro a w ⟨r85, v87, bq83_7_1, he, hs⟩
                refine TC.use ?_ he hs
                refine TC.k ?_
                refine TC.region ?_
                refine TO.s rfl rfl rfl (StepS.move rfl) ?_
                refine TO.s rfl rfl rfl (StepS.ldBA rfl (Ent.at 2 rfl) kaggB_41_4_true rfl rfl) ?_
                refine TO.litS (f := fun (_ : Unit) => [I x90, .string t91, I x92, v87]) [()] kelemB_23_41_4_56_true kinfo_41_bind_zero_some_agg_I_0_string_ByteArray_empty_I_0_slice_none_0_0 rfl rfl (fun _ => rfl) rfl rfl (by kernel_rfl) rfl fun v94 => ?_
                refine TO.pure (fun _ s => Rd.one (OwnS.rd (Ent.at 2 rfl)) s) fun oc96 => ?_
                refine TO.ghost (fun _ s => Sat.front 5 rfl s) ?_
                refine TO.ghost (fun _ s => Sat.front 3 rfl s) ?_
                obtain ⟨y97, hk98, hj69⟩ := bind_some hj69
                refine TO.appN (T := nT41) (z := (x90, t91, x92, y89)) [v87] rfl kelemB_23_41_4_56_true (by decide) rfl rfl (OwnS.rd (Ent.at 0 rfl)) hk98 (by intro u hu; have hu : u ∈ [I x90, .string t91, I x92, v87] := hu; simp only [List.mem_cons, List.not_mem_nil, or_false] at hu; rcases hu with rfl | rfl | rfl | rfl <;> first | rfl | exact oc96.1) rfl rfl fun v99 hs100 => ?_
                refine TO.ghost (fun _ s => Sat.erase 1 s) ?_
                refine TO.s rfl rfl rfl (StepS.assign rfl) ?_
                refine TO.code ?_
                refine TC.k ?_
                refine TC.k ?_
                refine TC.region ?_
                refine TO.s rfl rfl rfl (StepS.fld rfl kfieldB_41_0_0_true) ?_
                refine TO.s rfl rfl rfl (StepS.ldB rfl (Ent.at 2 rfl) kscalB_27_true rfl) ?_
                refine TO.s rfl rfl rfl (StepS.cmp rfl rfl rfl) ?_
                refine TO.code ?_
                refine TC.cond rfl (fun hc101 => ?_) (fun hc101 => ?_)
                · replace hj69 := cond_t hc101 hj69
                  cases hj69
                  refine TC.exit rfl fun a w e s => ?_
                  exact ⟨r21, r85, v99, hs100, hs27, e.sub (lk_of_allIn ⟨rfl, rfl, rfl, rfl, rfl, trivial⟩), s.mono fun _ s => (by exact Sat.by [7, 7, 7, 3, 4, 7] 6 2 (by kernel_rfl) s)⟩
                · replace hj69 := cond_f hc101 hj69
                  refine TC.skipk ?_
                  refine TC.k ?_
                  refine TC.region ?_
                  refine TO.s rfl rfl rfl (StepS.move rfl) ?_
                  refine TO.s rfl rfl rfl (StepS.fld rfl kfieldB_90_2_2_true) ?_
                  refine TO.s rfl rfl rfl (StepS.ldBA rfl (Ent.at 3 rfl) kaggB_45_4_true rfl rfl) ?_
                  refine TO.ghost (fun _ s => Sat.front 5 rfl s) ?_
                  refine TO.ghost (fun _ s => Sat.front 5 rfl s) ?_
                  refine TO.ghost (fun _ s => Sat.front 6 rfl s) ?_
                  obtain ⟨r102, hc103, hj69⟩ := bind_some hj69
                  refine TO.callO kcallB_31_true rfl rfl rfl (fun _ st => C31 (a0 := (y22, y26))  hc103 st) ?_
                  rintro _ _ ⟨r104, hs106, rfl, rfl⟩
                  refine TO.code ?_
                  refine TC.k ?_
                  refine TC.region ?_
                  refine TO.s rfl rfl rfl (StepS.fld rfl kfieldB_90_1_1_true) ?_
                  refine TO.s rfl rfl rfl (StepS.ldB rfl (Ent.at 6 rfl) kscalB_4_true rfl) ?_
                  refine TO.s rfl rfl rfl (StepS.move rfl) ?_
                  refine TO.mid1 5 61 (.bool (x70.2.1 && (decide (x70.2.2.1 ≥ 4)))) ?_ ?_
                  · refine bcase (x70.2.1) (fun hb108 => ?_) (fun hb108 => ?_)
                    · refine TO.sw rfl rfl rfl hb108 rfl rfl (StepS.fld rfl kfieldB_90_2_2_true) ?_
                      refine TO.sw rfl rfl rfl hb108 rfl rfl (StepS.fld rfl kfieldB_45_0_0_true) ?_
                      refine TO.sw rfl rfl rfl hb108 rfl rfl (StepS.ldB rfl (Ent.at 6 rfl) kscalB_3_true rfl) ?_
                      refine TO.sw rfl rfl rfl hb108 rfl rfl (StepS.cmp rfl rfl rfl) ?_
                      refine TO.s rfl rfl rfl (StepS.pickT rfl hb108 rfl) ?_
                      exact TO.up1 5 0 rfl rfl (by rw [hb108]; rfl) rfl
                    · refine TO.skip rfl rfl rfl (skipF hb108) rfl rfl ?_
                      refine TO.skip rfl rfl rfl (skipF hb108) rfl rfl ?_
                      refine TO.skip rfl rfl rfl (skipF hb108) rfl rfl ?_
                      refine TO.skip rfl rfl rfl (skipF hb108) rfl rfl ?_
                      refine TO.s rfl rfl rfl (StepS.pickF rfl hb108 rfl) ?_
                      exact TO.up1 5 0 rfl rfl (by rw [hb108]; rfl) rfl
                  refine TO.code ?_
                  refine TC.cond rfl (fun hc109 => ?_) (fun hc109 => ?_)
                  · replace hj69 := cond_t hc109 hj69
                    refine TC.region_tail 13 kfollows_mixedOrders_true (by kernel_rfl) ?_
                    refine TS.s rfl rfl rfl (StepS.move rfl) ?_
                    refine TS.s rfl rfl rfl (StepS.nilc rfl) ?_
                    refine TS.s rfl rfl rfl (StepS.fld rfl kfieldB_88_1_1_true) ?_
                    refine TS.s rfl rfl rfl (StepS.ldB rfl (Ent.at 0 rfl) kscalB_86_true rfl) ?_
                    refine TS.s rfl rfl rfl (StepS.fld rfl kfieldB_90_0_0_true) ?_
                    refine TS.s rfl rfl rfl (StepS.ldB rfl (Ent.at 6 rfl) kscalB_3_true rfl) ?_
                    refine TS.s rfl rfl rfl (StepS.fld rfl kfieldB_90_2_2_true) ?_
                    refine TS.s rfl rfl rfl (StepS.fld rfl kfieldB_45_0_0_true) ?_
                    refine TS.s rfl rfl rfl (StepS.ldB rfl (Ent.at 6 rfl) kscalB_3_true rfl) ?_
                    refine TS.s rfl rfl rfl (StepS.fld rfl kfieldB_90_2_2_true) ?_
                    refine TS.s rfl rfl rfl (StepS.fld rfl kfieldB_45_1_1_true) ?_
                    refine TS.s rfl rfl rfl (StepS.ldB rfl (Ent.at 6 rfl) kscalB_9_true rfl) ?_
                    refine TS.s rfl rfl rfl (StepS.build (cs := [I x70.1, I x70.2.2.1, .string x70.2.2.2.1]) rfl (by kernel_rfl)) ?_
                    refine TS.nil ?_
                    refine TO.at ?_
                    refine TO.msetF (k := (x70.1, x70.2.2.1, x70.2.2.2.1)) (v := true) 1 kmapGB_86_93_4_true (KeyOk.key3 kkey3B_93_3_9_true kunderlying_93_some_struct_fieldsOf_93 kunderlying_3_some_int_i64 ksizeB_3_1_true kscalB_3_true kunderlying_9_some_string ksizeB_9_1_true kscalB_9_true kstoodInHeld_93_false) rfl rfl rfl rfl ?_
                    cases hj69
                    refine TO.nil fun a w e s => ?_
                    exact ⟨r104, r85, v99, hs100, hs106, e.sub (lk_of_allIn ⟨rfl, rfl, rfl, rfl, rfl, trivial⟩), s.mono fun _ s => (by exact Sat.by [7, 1, 3, 4, 5, 5] 6 2 (by kernel_rfl) s)⟩
                  · replace hj69 := cond_f hc109 hj69
                    cases hj69
                    refine TC.skip fun a w e s => ?_
                    exact ⟨r104, r85, v99, hs100, hs106, e.sub (lk_of_allIn ⟨rfl, rfl, rfl, rfl, rfl, trivial⟩), s.mono fun _ s => (by exact Sat.by [7, 1, 3, 4, 5, 5] 6 2 (by kernel_rfl) s)⟩
          · intro a w ⟨r59, r62, v65, hs66, hs68, he, hs⟩
            refine TC.use ?_ he hs
            refine TC.region ?_
            refine TO.s rfl rfl rfl (StepS.ari rfl rfl rfl) ?_
            refine TO.s rfl rfl rfl (StepS.move rfl) ?_
            cases hb56
            refine TO.nil fun a w e s => ?_
            exact ⟨v65, hs66, r59, r62, hs68, e.sub (lk_of_allIn ⟨rfl, rfl, rfl, rfl, rfl, trivial⟩), s.mono fun _ s => (by exact Sat.by [5, 5, 5, 4, 4, 5] 6 0 (by kernel_rfl) s)⟩
        · replace hb56 := cond_f hc57 hb56
          cases hb56
          refine TC.exit rfl fun a w e s => ?_
          exact ⟨v16, hs17, r21, r24, hs27, e.sub (lk_of_allIn ⟨rfl, rfl, trivial⟩), s⟩
      · exact fun a w e s => ⟨.slice none 0 0, [], r6, r13, hs9, e.sub (lk_of_allIn ⟨rfl, rfl, rfl, rfl, rfl, trivial⟩), s.mono fun _ s => (by replace s := Sat.nilSN (e := 41) (sz := 4) (T := nT41) s; exact Sat.by [5, 5, 4, 5, 5, 5] 6 0 (by kernel_rfl) s)⟩
      · rintro ⟨y45, y48, y51, y52⟩ rfl a w ⟨v42, hs43, r47, r50, hs53, he, hs⟩
        dsimp only [Ctl.on] at hm
        refine TC.use ?_ he hs
        refine TC.k ?_
        refine TC.region_still kfollows_mixedOrders_true (by kernel_rfl) ?_
        refine TS.s rfl rfl rfl (StepS.move rfl) ?_
        refine TS.s rfl rfl rfl (StepS.move rfl) ?_
        refine TS.s rfl rfl rfl (StepS.nilc rfl) ?_
        refine TS.s rfl rfl rfl (StepS.fld rfl kfieldB_88_2_2_true) ?_
        refine TS.s rfl rfl rfl (StepS.ldB rfl (Ent.at 4 rfl) kscalB_60_true rfl) ?_
        refine TS.s rfl rfl rfl (StepS.assign rfl) ?_
        refine TS.s rfl rfl rfl (StepS.assign rfl) ?_
        refine TS.s rfl rfl rfl (StepS.assign rfl) ?_
        refine TS.code ?_
        cases hm
        refine TC.ret fun a w e s => ?_
        refine FRet.mk3 (P := Tryd.prog) (fn := Tryd.f22) (t := 2) (u := 3) (s := 4) e rfl rfl rfl rfl ?_
        refine ⟨_, _, rfl, ⟨(v42), (hs43), (v8), (hs53), rfl, rfl⟩, ?_⟩
        refine s.mono fun _ s => ?_
        replace s := Sat.front 3 rfl s
        replace s := Sat.front 1 rfl s
        replace s := Sat.erase 2 s
        replace s := Sat.erase 2 s
        replace s := Sat.erase 2 s
        replace s := Sat.erase 2 s
        exact s
      · rintro r rfl
        exact fun a w h => h.elim

set_option maxHeartbeats 1000000 in
set_option maxRecDepth 100000 in
theorem C23 {B : World} {L : List HP} {a0 : List (Int × Bool × Int × ByteArray × ByteArray × Int)} {h0 : Value} {r0 : List (Int × ByteArray × Int × List ByteArray)} {r1 : List (List (Int × ByteArray))} (e0 : Ent L (Rd 6 h0 (a0.map cTibissi))) (hm : F23 a0 = some (r0, r1)) {w : World} (st : St B L w) : Calls Tryd.prog 23 #[h0] w (fun e w' => ∃ v M, e = .returned v ∧ (∃ (qv1 : Value) (qhs2 : List (List Value)) (qv3 : Value) (qhs4 : List Value), v = .tuple #[qv1, qv3] ∧ M = (SN 41 4 nT41 qv1 qhs2 (r0) :: SS 66 95 2 cTis qv3 qhs4 (r1) :: L)) ∧ St B M w') := by
  refine calls_of (N := 169) (L := L) (args := [h0]) Tryd.func23 rfl rfl rfl ?_ st
  dsimp only [F23] at hm
  refine TC.k ?_
  refine TC.region ?_
  refine TO.s rfl rfl rfl (StepS.assign rfl) ?_
  refine TO.s rfl rfl rfl (StepS.assign rfl) ?_
  refine TO.code ?_
  refine TC.k ?_
  refine TC.region ?_
  obtain ⟨r3, hc4, hm⟩ := bind_some hm
  refine TO.callO kcallB_20_true rfl rfl rfl (fun _ st => C20  hc4 st) ?_
  rintro v5 _ ⟨_, rfl, rfl⟩
  refine TO.s rfl rfl rfl (StepS.assign rfl) ?_
  refine TO.code ?_
  refine TC.k ?_
  refine TC.region ?_
  refine TO.s rfl rfl rfl (StepS.assign rfl) ?_
  refine TO.code ?_
  refine TC.k ?_
  refine TC.region ?_
  obtain ⟨y7, hk8, hm⟩ := bind_some hm
  refine TO.mkSSg (ee := 95) (sz := 2) (f := cTis) kelemB_60_66_1_24_true kinfo_66_bind_zero_some_slice_none_0_0 rfl rfl hk8 rfl fun v9 hs10 => ?_
  refine TO.s rfl rfl rfl (StepS.assign rfl) ?_
  refine TO.code ?_
  refine TC.k ?_
  refine TC.region ?_
  refine TO.s rfl rfl rfl (StepS.assign rfl) ?_
  refine TO.code ?_
  refine TC.k ?_
  refine TC.k ?_
  refine TC.region ?_
  refine TO.s rfl rfl rfl (StepS.move rfl) ?_
  refine TO.s rfl rfl rfl (StepS.lenm rfl e0.tl.tl ksliceB_59_90_6_true rfl) ?_
  refine TO.s rfl rfl rfl (StepS.move rfl) ?_
  refine TO.code ?_
  obtain ⟨o44, hw45, hm⟩ := bind_some hm
  refine TC.loop hw45 (fun (y14, y18, y21, y22, x24) => fun a w => ∃ v12 : Value, ∃ v15 : Value, ∃ hs16 : List (List Value), ∃ v19 : Value, ∃ hs23 : List Value, Mid 169 B [(4, v12), (5, v15), (6, v9), (7, v19), (24, h0), (25, I (a0.length : Int)), (26, I x24)] (OwnS 84 3 v12 (y14.map cTssi) :: SN 41 4 nT41 v15 hs16 (y18) :: OwnS 90 6 v19 (y21.map cTibissi) :: SS 66 95 2 cTis v9 hs23 (y22) :: L) a w) (fun (y41, y42) => fun a w => ∃ v38 : Value, ∃ hs39 : List (List Value), ∃ hs43 : List Value, Mid 169 B [(5, v38), (6, v9)] (SN 41 4 nT41 v38 hs39 (y41) :: SS 66 95 2 cTis v9 hs43 (y42) :: L) a w) (fun (_ : Unit) _ _ => False) ?_ ?_ ?_ ?_
  · rintro ⟨y14, y18, y21, y22, x24⟩ o44r hb46 a w ⟨v12, v15, hs16, v19, hs23, he, hs⟩
    dsimp only [F23_L0] at hb46
    refine TC.use ?_ he hs
    refine TC.k ?_
    refine TC.region ?_
    refine TO.s rfl rfl rfl (StepS.cmp rfl rfl rfl) ?_
    refine TO.code ?_
    refine TC.k ?_
    refine TC.cond rfl (fun hc47 => ?_) (fun hc47 => ?_)
    · replace hb46 := cond_t hc47 hb46
      refine TC.skipk ?_
      refine TC.k ?_
      obtain ⟨⟨y50, y53, y54, y57⟩, hj59, hb46⟩ := bind_some hb46
      first | refine TC.cutM (fun a w => ∃ v48 : Value, ∃ v51 : Value, ∃ v55 : Value, ∃ hs56 : List (List Value), ∃ hs58 : List Value, Mid 169 B [(4, v48), (5, v55), (6, v9), (7, v51), (24, h0), (25, I (a0.length : Int)), (26, I x24)] (OwnS 84 3 v48 (y50.map cTssi) :: OwnS 90 6 v51 (y53.map cTibissi) :: SN 41 4 nT41 v55 hs56 (y54) :: SS 66 95 2 cTis v9 hs58 (y57) :: L) a w) ?_ ?_ | refine TC.cutX (fun a w => ∃ v48 : Value, ∃ v51 : Value, ∃ v55 : Value, ∃ hs56 : List (List Value), ∃ hs58 : List Value, Mid 169 B [(4, v48), (5, v55), (6, v9), (7, v51), (24, h0), (25, I (a0.length : Int)), (26, I x24)] (OwnS 84 3 v48 (y50.map cTssi) :: OwnS 90 6 v51 (y53.map cTibissi) :: SN 41 4 nT41 v55 hs56 (y54) :: SS 66 95 2 cTis v9 hs58 (y57) :: L) a w) ?_ ?_
      · refine TC.block ?_
        refine TC.k ?_
        refine TC.region ?_
        obtain ⟨x60, hx61, hj59⟩ := bind_some hj59
        refine TO.s rfl rfl rfl (StepS.idx rfl rfl e0.tl.tl.tl.tl ksliceB_59_90_6_true (idx_spec hx61).1 (idxm_lt hx61)) ?_
        refine TO.s rfl rfl rfl (StepS.ldE rfl e0.tl.tl.tl.tl kaggB_90_6_true rfl (idxm hx61)) ?_
        refine TO.alloc kinfo_90_bind_zero_some_agg_I_0_bool_false_I_0_string_ByteArray_empty_string_ByteArray_empty_I_0 rfl rfl fun b62 => ?_
        refine TO.stB (us := [I x60.1, .bool x60.2.1, I x60.2.2.1, .string x60.2.2.2.1, .string x60.2.2.2.2.1, I x60.2.2.2.2.2]) 0 [I x60.1, .bool x60.2.1, I x60.2.2.1, .string x60.2.2.2.1, .string x60.2.2.2.2.1, I x60.2.2.2.2.2] rfl rfl rfl ksizeB_90_6_true rfl rfl rfl (by simp [Value.oneCell']) rfl ?_
        refine TO.code ?_
        refine TC.k ?_
        refine TC.k ?_
        refine TC.region ?_
        refine TO.s rfl rfl rfl (StepS.fld rfl kfieldB_90_0_0_true) ?_
        refine TO.s rfl rfl rfl (StepS.ldB rfl (Ent.at 0 rfl) kscalB_3_true rfl) ?_
        refine TO.s rfl rfl rfl (StepS.cmp rfl rfl rfl) ?_
        refine TO.s rfl rfl rfl (StepS.move rfl) ?_
        refine TO.mid1 4 37 (.bool ((decide (x60.1 < 0)) || (decide (x60.1 ≥ 6)))) ?_ ?_
        · refine bcase ((decide (x60.1 < 0))) (fun hb63 => ?_) (fun hb63 => ?_)
          · refine TO.skip rfl rfl rfl (skipT hb63) rfl rfl ?_
            refine TO.skip rfl rfl rfl (skipT hb63) rfl rfl ?_
            refine TO.skip rfl rfl rfl (skipT hb63) rfl rfl ?_
            refine TO.s rfl rfl rfl (StepS.pickT rfl hb63 rfl) ?_
            exact TO.up1 4 0 rfl rfl (by rw [hb63]; rfl) rfl
          · refine TO.sw rfl rfl rfl hb63 rfl rfl (StepS.fld rfl kfieldB_90_0_0_true) ?_
            refine TO.sw rfl rfl rfl hb63 rfl rfl (StepS.ldB rfl (Ent.at 0 rfl) kscalB_3_true rfl) ?_
            refine TO.sw rfl rfl rfl hb63 rfl rfl (StepS.cmp rfl rfl rfl) ?_
            refine TO.s rfl rfl rfl (StepS.pickF rfl hb63 rfl) ?_
            exact TO.up1 4 0 rfl rfl (by rw [hb63]; rfl) rfl
        refine TO.code ?_
        refine TC.cond rfl (fun hc64 => ?_) (fun hc64 => ?_)
        · replace hj59 := cond_t hc64 hj59
          refine TC.k ?_
          refine TC.region ?_
          refine TO.s rfl rfl rfl (StepS.move rfl) ?_
          refine TO.s rfl rfl rfl (StepS.build (cs := [I 2, .string ByteArray.empty, I 0, .slice none 0 0]) rfl (by kernel_rfl)) ?_
          refine TO.litS (f := fun (_ : Unit) => [I 2, .string ByteArray.empty, I 0, .slice none 0 0]) [()] kelemB_23_41_4_56_true kinfo_41_bind_zero_some_agg_I_0_string_ByteArray_empty_I_0_slice_none_0_0 rfl rfl (fun _ => rfl) rfl rfl (by kernel_rfl) rfl fun v65 => ?_
          refine TO.ghost (fun _ => Sat.nilS (e := 9) (sz := 1) (f := cS)) ?_
          refine TO.pure (fun _ s => Rd.one (OwnS.rd (Ent.at 0 rfl)) s) fun oc68 => ?_
          refine TO.ghost (fun _ s => Sat.front 4 rfl s) ?_
          refine TO.ghost (fun _ s => Sat.front 1 rfl s) ?_
          obtain ⟨y69, hk70, hj59⟩ := bind_some hj59
          refine TO.appN (T := nT41) (z := (2, ByteArray.empty, 0, ([] : List (ByteArray)))) [(.slice none 0 0)] rfl kelemB_23_41_4_56_true (by decide) rfl rfl (OwnS.rd (Ent.at 0 rfl)) hk70 (by intro u hu; have hu : u ∈ [I 2, .string ByteArray.empty, I 0, (.slice none 0 0)] := hu; simp only [List.mem_cons, List.not_mem_nil, or_false] at hu; rcases hu with rfl | rfl | rfl | rfl <;> first | rfl | exact oc68.1) rfl rfl fun v71 hs72 => ?_
          refine TO.ghost (fun _ s => Sat.erase 1 s) ?_
          refine TO.s rfl rfl rfl (StepS.assign rfl) ?_
          refine TO.code ?_
          cases hj59
          refine TC.exit rfl fun a w e s => ?_
          exact ⟨v12, v19, v71, hs72, hs23, e.sub (lk_of_allIn ⟨rfl, rfl, rfl, rfl, rfl, rfl, rfl, trivial⟩), s.mono fun _ s => (by exact Sat.by [4, 1, 4, 4] 4 1 (by kernel_rfl) s)⟩
        · replace hj59 := cond_f hc64 hj59
          refine TC.skipk ?_
          refine TC.k ?_
          refine TC.region ?_
          refine TO.s rfl rfl rfl (StepS.move rfl) ?_
          refine TO.s rfl rfl rfl (StepS.fld rfl kfieldB_90_2_2_true) ?_
          refine TO.s rfl rfl rfl (StepS.ldBA rfl (Ent.at 0 rfl) kaggB_45_4_true rfl rfl) ?_
          refine TO.ghost (fun _ s => Sat.front 1 rfl s) ?_
          obtain ⟨⟨r73, r74⟩, hc75, hj59⟩ := bind_some hj59
          refine TO.callO kcallB_30_true rfl rfl rfl (fun _ st => C30  hc75 st) ?_
          rintro _ _ ⟨v76, v78, rfl, rfl⟩
          refine TO.s rfl rfl rfl (StepS.move rfl) ?_
          refine TO.s rfl rfl rfl (StepS.extract rfl rfl) ?_
          refine TO.s rfl rfl rfl (StepS.extract rfl rfl) ?_
          refine TO.alloc kinfo_41_bind_zero_some_agg_I_0_string_ByteArray_empty_I_0_slice_none_0_0 rfl rfl fun b80 => ?_
          refine TO.s rfl rfl rfl (StepS.assign rfl) ?_
          refine TO.pure (fun _ s => Rd.one (OwnS.rd (Ent.at 2 rfl)) s) fun oc81 => ?_
          refine TO.stB (us := [I r74.1, .string r74.2.1, I r74.2.2.1, v78]) 0 [I r74.1, .string r74.2.1, I r74.2.2.1, v78] rfl rfl rfl ksizeB_41_4_true rfl rfl rfl (by intro u hu; simp only [List.mem_cons, List.not_mem_nil, or_false] at hu; rcases hu with rfl | rfl | rfl | rfl <;> first | exact oc81.1 | rfl) rfl ?_
          refine TO.code ?_
          refine TC.k ?_
          refine TC.region ?_
          refine TO.s rfl rfl rfl (StepS.move rfl) ?_
          refine TO.s rfl rfl rfl (StepS.assign rfl) ?_
          refine TO.code ?_
          refine TC.k ?_
          refine TC.region ?_
          refine TO.s rfl rfl rfl (StepS.move rfl) ?_
          refine TO.s rfl rfl rfl (StepS.ldBA rfl (Ent.at 0 rfl) kaggB_41_4_true rfl rfl) ?_
          refine TO.litS (f := fun (_ : Unit) => [I r74.1, .string r74.2.1, I r74.2.2.1, v78]) [()] kelemB_23_41_4_56_true kinfo_41_bind_zero_some_agg_I_0_string_ByteArray_empty_I_0_slice_none_0_0 rfl rfl (fun _ => rfl) rfl rfl (by kernel_rfl) rfl fun v82 => ?_
          refine TO.pure (fun _ s => Rd.one (OwnS.rd (Ent.at 3 rfl)) s) fun oc84 => ?_
          refine TO.ghost (fun _ s => Sat.front 5 rfl s) ?_
          refine TO.ghost (fun _ s => Sat.front 4 rfl s) ?_
          obtain ⟨y85, hk86, hj59⟩ := bind_some hj59
          refine TO.appN (T := nT41) (z := (r74.1, r74.2.1, r74.2.2.1, r74.2.2.2)) [v78] rfl kelemB_23_41_4_56_true (by decide) rfl rfl (OwnS.rd (Ent.at 0 rfl)) hk86 (by intro u hu; have hu : u ∈ [I r74.1, .string r74.2.1, I r74.2.2.1, v78] := hu; simp only [List.mem_cons, List.not_mem_nil, or_false] at hu; rcases hu with rfl | rfl | rfl | rfl <;> first | rfl | exact oc84.1) rfl rfl fun v87 hs88 => ?_
          refine TO.ghost (fun _ s => Sat.erase 1 s) ?_
          refine TO.s rfl rfl rfl (StepS.assign rfl) ?_
          refine TO.code ?_
          refine TC.k ?_
          refine TC.k ?_
          refine TC.region ?_
          refine TO.s rfl rfl rfl (StepS.fld rfl kfieldB_41_0_0_true) ?_
          refine TO.s rfl rfl rfl (StepS.ldB rfl (Ent.at 1 rfl) kscalB_27_true rfl) ?_
          refine TO.s rfl rfl rfl (StepS.cmp rfl rfl rfl) ?_
          refine TO.code ?_
          refine TC.cond rfl (fun hc89 => ?_) (fun hc89 => ?_)
          · replace hj59 := cond_t hc89 hj59
            cases hj59
            refine TC.exit rfl fun a w e s => ?_
            exact ⟨v76, v19, v87, hs88, hs23, e.sub (lk_of_allIn ⟨rfl, rfl, rfl, rfl, rfl, rfl, rfl, trivial⟩), s.mono fun _ s => (by exact Sat.by [5, 1, 5, 4] 4 2 (by kernel_rfl) s)⟩
          · replace hj59 := cond_f hc89 hj59
            refine TC.skipk ?_
            refine TC.k ?_
            refine TC.region ?_
            refine TO.s rfl rfl rfl (StepS.fld rfl kfieldB_90_2_2_true) ?_
            refine TO.s rfl rfl rfl (StepS.ldBA rfl (Ent.at 3 rfl) kaggB_45_4_true rfl rfl) ?_
            refine TO.alloc kinfo_45_bind_zero_some_agg_I_0_string_ByteArray_empty_string_ByteArray_empty_I_0 rfl rfl fun b90 => ?_
            refine TO.stB (us := [I x60.2.2.1, .string x60.2.2.2.1, .string x60.2.2.2.2.1, I x60.2.2.2.2.2]) 0 [I x60.2.2.1, .string x60.2.2.2.1, .string x60.2.2.2.2.1, I x60.2.2.2.2.2] rfl rfl rfl ksizeB_45_4_true rfl rfl rfl (by simp [Value.oneCell']) rfl ?_
            refine TO.code ?_
            refine TC.k ?_
            refine TC.k ?_
            refine TC.region ?_
            refine TO.s rfl rfl rfl (StepS.fld rfl kfieldB_45_0_0_true) ?_
            refine TO.s rfl rfl rfl (StepS.ldB rfl (Ent.at 0 rfl) kscalB_3_true rfl) ?_
            refine TO.s rfl rfl rfl (StepS.cmp rfl rfl rfl) ?_
            refine TO.code ?_
            refine TC.cond rfl (fun hc91 => ?_) (fun hc91 => ?_)
            · replace hj59 := cond_t hc91 hj59
              refine TC.k ?_
              refine TC.k ?_
              refine TC.region ?_
              refine TO.s rfl rfl rfl (StepS.fld rfl kfieldB_90_1_1_true) ?_
              refine TO.s rfl rfl rfl (StepS.ldB rfl (Ent.at 4 rfl) kscalB_4_true rfl) ?_
              refine TO.code ?_
              obtain ⟨y92, hj94, hj59⟩ := bind_some hj59
              first | refine TC.cutM (fun a w => ∃ v93 : Value, Mid 169 B [(4, v76), (5, v87), (6, v9), (7, v93), (24, h0), (25, I (a0.length : Int)), (26, I x24)] (Bx b90 45 [I x60.2.2.1, .string x60.2.2.2.1, .string x60.2.2.2.2.1, I x60.2.2.2.2.2] :: SN 41 4 nT41 v87 hs88 (y85) :: Bx b80 41 [I r74.1, .string r74.2.1, I r74.2.2.1, v78] :: OwnS 84 3 v76 (r73.map cTssi) :: Bx b62 90 [I x60.1, .bool x60.2.1, I x60.2.2.1, .string x60.2.2.2.1, .string x60.2.2.2.2.1, I x60.2.2.2.2.2] :: OwnS 90 6 v93 (y92.map cTibissi) :: SS 66 95 2 cTis v9 hs23 (y22) :: L) a w) ?_ ?_ | refine TC.cutX (fun a w => ∃ v93 : Value, Mid 169 B [(4, v76), (5, v87), (6, v9), (7, v93), (24, h0), (25, I (a0.length : Int)), (26, I x24)] (Bx b90 45 [I x60.2.2.1, .string x60.2.2.2.1, .string x60.2.2.2.2.1, I x60.2.2.2.2.2] :: SN 41 4 nT41 v87 hs88 (y85) :: Bx b80 41 [I r74.1, .string r74.2.1, I r74.2.2.1, v78] :: OwnS 84 3 v76 (r73.map cTssi) :: Bx b62 90 [I x60.1, .bool x60.2.1, I x60.2.2.1, .string x60.2.2.2.1, .string x60.2.2.2.2.1, I x60.2.2.2.2.2] :: OwnS 90 6 v93 (y92.map cTibissi) :: SS 66 95 2 cTis v9 hs23 (y22) :: L) a w) ?_ ?_
              · refine TC.cond rfl (fun hc95 => ?_) (fun hc95 => ?_)
                · replace hj94 := cond_t hc95 hj94
                  refine TC.region ?_
                  refine TO.s rfl rfl rfl (StepS.move rfl) ?_
                  refine TO.s rfl rfl rfl (StepS.ldBA rfl (Ent.at 4 rfl) kaggB_90_6_true rfl rfl) ?_
                  refine TO.litS (f := cTibissi) ([(x60.1, x60.2.1, (x60.2.2.1, x60.2.2.2.1, x60.2.2.2.2.1, x60.2.2.2.2.2))] : List (Int × Bool × Int × ByteArray × ByteArray × Int)) kelemB_59_90_6_64_true kinfo_90_bind_zero_some_agg_I_0_bool_false_I_0_string_ByteArray_empty_string_ByteArray_empty_I_0 rfl rfl (fun _ => rfl) rfl rfl (by kernel_rfl) rfl fun v96 => ?_
                  obtain ⟨y98, hk99, hj94⟩ := bind_some hj94
                  refine TO.app (k := 6) (f := cTibissi) kelemB_59_90_6_64_true (by decide) rfl rfl rfl (OwnS.rd (Ent.at 0 rfl)) hk99 (fun x c hc => by simp [Value.oneCell'] at hc ⊢; first | (obtain rfl := hc; rfl) | (rcases hc with rfl | rfl | rfl | rfl | rfl | rfl <;> rfl)) rfl rfl fun v100 => ?_
                  refine TO.s rfl rfl rfl (StepS.assign rfl) ?_
                  cases hj94
                  refine TO.nil fun a w e s => ?_
                  exact ⟨v100, e.sub (lk_of_allIn ⟨rfl, rfl, rfl, rfl, rfl, rfl, rfl, trivial⟩), s.mono fun _ => Sat.dropN 1⟩
                · replace hj94 := cond_f hc95 hj94
                  cases hj94
                  refine TC.skip fun a w e s => ?_
                  exact ⟨v19, e.sub (lk_of_allIn ⟨rfl, rfl, rfl, rfl, rfl, rfl, rfl, trivial⟩), s⟩
              · intro a w ⟨v93, he, hs⟩
                refine TC.use ?_ he hs
                cases hj59
                refine TC.exit rfl fun a w e s => ?_
                exact ⟨v76, v93, v87, hs88, hs23, e.sub (lk_of_allIn ⟨rfl, rfl, rfl, rfl, rfl, rfl, rfl, trivial⟩), s.mono fun _ s => (by exact Sat.by [6, 2, 6, 5] 4 3 (by kernel_rfl) s)⟩
            · replace hj59 := cond_f hc91 hj59
              refine TC.skipk ?_
              refine TC.k ?_
              refine TC.region ?_
              refine TO.s rfl rfl rfl (StepS.fld rfl kfieldB_45_0_0_true) ?_
              refine TO.s rfl rfl rfl (StepS.ldB rfl (Ent.at 0 rfl) kscalB_3_true rfl) ?_
              refine TO.s rfl rfl rfl (StepS.fld rfl kfieldB_45_1_1_true) ?_
              refine TO.s rfl rfl rfl (StepS.ldB rfl (Ent.at 0 rfl) kscalB_9_true rfl) ?_
              refine TO.s rfl rfl rfl (StepS.build (cs := [I x60.2.2.1, .string x60.2.2.2.1]) rfl (by kernel_rfl)) ?_
              refine TO.alloc kinfo_95_bind_zero_some_agg_I_0_string_ByteArray_empty rfl rfl fun b101 => ?_
              refine TO.stB (us := [I x60.2.2.1, .string x60.2.2.2.1]) 0 [I x60.2.2.1, .string x60.2.2.2.1] rfl rfl rfl ksizeB_95_2_true rfl rfl rfl (by simp [Value.oneCell']) rfl ?_
              refine TO.code ?_
              refine TC.k ?_
              refine TC.k ?_
              refine TC.region ?_
              refine TO.s rfl rfl rfl (StepS.fld rfl kfieldB_45_0_0_true) ?_
              refine TO.s rfl rfl rfl (StepS.ldB rfl (Ent.at 1 rfl) kscalB_3_true rfl) ?_
              refine TO.s rfl rfl rfl (StepS.cmp rfl rfl rfl) ?_
              refine TO.code ?_
              obtain ⟨x102, hj103, hj59⟩ := bind_some hj59
              first | refine TC.cutM (fun a w => Mid 169 B [(4, v76), (5, v87), (6, v9), (7, v19), (12, .pointer (some ⟨b90, 0, none⟩)), (13, .pointer (some ⟨b101, 0, none⟩)), (24, h0), (25, I (a0.length : Int)), (26, I x24)] (Bx b101 95 [I x102, .string x60.2.2.2.1] :: Bx b90 45 [I x60.2.2.1, .string x60.2.2.2.1, .string x60.2.2.2.2.1, I x60.2.2.2.2.2] :: SN 41 4 nT41 v87 hs88 (y85) :: Bx b80 41 [I r74.1, .string r74.2.1, I r74.2.2.1, v78] :: OwnS 84 3 v76 (r73.map cTssi) :: Bx b62 90 [I x60.1, .bool x60.2.1, I x60.2.2.1, .string x60.2.2.2.1, .string x60.2.2.2.2.1, I x60.2.2.2.2.2] :: OwnS 90 6 v19 (y21.map cTibissi) :: SS 66 95 2 cTis v9 hs23 (y22) :: L) a w) ?_ ?_ | refine TC.cutX (fun a w => Mid 169 B [(4, v76), (5, v87), (6, v9), (7, v19), (12, .pointer (some ⟨b90, 0, none⟩)), (13, .pointer (some ⟨b101, 0, none⟩)), (24, h0), (25, I (a0.length : Int)), (26, I x24)] (Bx b101 95 [I x102, .string x60.2.2.2.1] :: Bx b90 45 [I x60.2.2.1, .string x60.2.2.2.1, .string x60.2.2.2.2.1, I x60.2.2.2.2.2] :: SN 41 4 nT41 v87 hs88 (y85) :: Bx b80 41 [I r74.1, .string r74.2.1, I r74.2.2.1, v78] :: OwnS 84 3 v76 (r73.map cTssi) :: Bx b62 90 [I x60.1, .bool x60.2.1, I x60.2.2.1, .string x60.2.2.2.1, .string x60.2.2.2.2.1, I x60.2.2.2.2.2] :: OwnS 90 6 v19 (y21.map cTibissi) :: SS 66 95 2 cTis v9 hs23 (y22) :: L) a w) ?_ ?_
              · refine TC.cond rfl (fun hc104 => ?_) (fun hc104 => ?_)
                · replace hj103 := cond_t hc104 hj103
                  refine TC.region ?_
                  refine TO.s rfl rfl rfl (StepS.fld rfl kfieldB_95_0_0_true) ?_
                  refine TO.stB (us := [I 1]) 0 [I 1, .string x60.2.2.2.1] rfl rfl rfl ksizeB_3_1_true rfl rfl rfl (by simp [Value.oneCell']) rfl ?_
                  cases hj103
                  refine TO.nil fun a w e s => ?_
                  exact ⟨e.sub (lk_of_allIn ⟨rfl, rfl, rfl, rfl, rfl, rfl, rfl, rfl, rfl, trivial⟩), s⟩
                · replace hj103 := cond_f hc104 hj103
                  cases hj103
                  refine TC.skip fun a w e s => ?_
                  exact ⟨e.sub (lk_of_allIn ⟨rfl, rfl, rfl, rfl, rfl, rfl, rfl, rfl, rfl, trivial⟩), s⟩
              · intro a w ⟨he, hs⟩
                refine TC.use ?_ he hs
                refine TC.k ?_
                refine TC.k ?_
                refine TC.region ?_
                refine TO.s rfl rfl rfl (StepS.fld rfl kfieldB_45_0_0_true) ?_
                refine TO.s rfl rfl rfl (StepS.ldB rfl (Ent.at 1 rfl) kscalB_3_true rfl) ?_
                refine TO.s rfl rfl rfl (StepS.cmp rfl rfl rfl) ?_
                refine TO.code ?_
                obtain ⟨x105, hj106, hj59⟩ := bind_some hj59
                first | refine TC.cutM (fun a w => Mid 169 B [(4, v76), (5, v87), (6, v9), (7, v19), (12, .pointer (some ⟨b90, 0, none⟩)), (13, .pointer (some ⟨b101, 0, none⟩)), (24, h0), (25, I (a0.length : Int)), (26, I x24)] (Bx b101 95 [I x105, .string x60.2.2.2.1] :: Bx b90 45 [I x60.2.2.1, .string x60.2.2.2.1, .string x60.2.2.2.2.1, I x60.2.2.2.2.2] :: SN 41 4 nT41 v87 hs88 (y85) :: Bx b80 41 [I r74.1, .string r74.2.1, I r74.2.2.1, v78] :: OwnS 84 3 v76 (r73.map cTssi) :: Bx b62 90 [I x60.1, .bool x60.2.1, I x60.2.2.1, .string x60.2.2.2.1, .string x60.2.2.2.2.1, I x60.2.2.2.2.2] :: OwnS 90 6 v19 (y21.map cTibissi) :: SS 66 95 2 cTis v9 hs23 (y22) :: L) a w) ?_ ?_ | refine TC.cutX (fun a w => Mid 169 B [(4, v76), (5, v87), (6, v9), (7, v19), (12, .pointer (some ⟨b90, 0, none⟩)), (13, .pointer (some ⟨b101, 0, none⟩)), (24, h0), (25, I (a0.length : Int)), (26, I x24)] (Bx b101 95 [I x105, .string x60.2.2.2.1] :: Bx b90 45 [I x60.2.2.1, .string x60.2.2.2.1, .string x60.2.2.2.2.1, I x60.2.2.2.2.2] :: SN 41 4 nT41 v87 hs88 (y85) :: Bx b80 41 [I r74.1, .string r74.2.1, I r74.2.2.1, v78] :: OwnS 84 3 v76 (r73.map cTssi) :: Bx b62 90 [I x60.1, .bool x60.2.1, I x60.2.2.1, .string x60.2.2.2.1, .string x60.2.2.2.2.1, I x60.2.2.2.2.2] :: OwnS 90 6 v19 (y21.map cTibissi) :: SS 66 95 2 cTis v9 hs23 (y22) :: L) a w) ?_ ?_
                · refine TC.cond rfl (fun hc107 => ?_) (fun hc107 => ?_)
                  · replace hj106 := cond_t hc107 hj106
                    refine TC.region ?_
                    refine TO.s rfl rfl rfl (StepS.fld rfl kfieldB_95_0_0_true) ?_
                    refine TO.stB (us := [I 2]) 0 [I 2, .string x60.2.2.2.1] rfl rfl rfl ksizeB_3_1_true rfl rfl rfl (by simp [Value.oneCell']) rfl ?_
                    cases hj106
                    refine TO.nil fun a w e s => ?_
                    exact ⟨e.sub (lk_of_allIn ⟨rfl, rfl, rfl, rfl, rfl, rfl, rfl, rfl, rfl, trivial⟩), s⟩
                  · replace hj106 := cond_f hc107 hj106
                    cases hj106
                    refine TC.skip fun a w e s => ?_
                    exact ⟨e.sub (lk_of_allIn ⟨rfl, rfl, rfl, rfl, rfl, rfl, rfl, rfl, rfl, trivial⟩), s⟩
                · intro a w ⟨he, hs⟩
                  refine TC.use ?_ he hs
                  refine TC.k ?_
                  refine TC.k ?_
                  refine TC.region ?_
                  refine TO.s rfl rfl rfl (StepS.fld rfl kfieldB_45_0_0_true) ?_
                  refine TO.s rfl rfl rfl (StepS.ldB rfl (Ent.at 1 rfl) kscalB_3_true rfl) ?_
                  refine TO.s rfl rfl rfl (StepS.cmp rfl rfl rfl) ?_
                  refine TO.code ?_
                  obtain ⟨x108, hj109, hj59⟩ := bind_some hj59
                  first | refine TC.cutM (fun a w => Mid 169 B [(4, v76), (5, v87), (6, v9), (7, v19), (12, .pointer (some ⟨b90, 0, none⟩)), (13, .pointer (some ⟨b101, 0, none⟩)), (24, h0), (25, I (a0.length : Int)), (26, I x24)] (Bx b101 95 [I x108, .string x60.2.2.2.1] :: Bx b90 45 [I x60.2.2.1, .string x60.2.2.2.1, .string x60.2.2.2.2.1, I x60.2.2.2.2.2] :: SN 41 4 nT41 v87 hs88 (y85) :: Bx b80 41 [I r74.1, .string r74.2.1, I r74.2.2.1, v78] :: OwnS 84 3 v76 (r73.map cTssi) :: Bx b62 90 [I x60.1, .bool x60.2.1, I x60.2.2.1, .string x60.2.2.2.1, .string x60.2.2.2.2.1, I x60.2.2.2.2.2] :: OwnS 90 6 v19 (y21.map cTibissi) :: SS 66 95 2 cTis v9 hs23 (y22) :: L) a w) ?_ ?_ | refine TC.cutX (fun a w => Mid 169 B [(4, v76), (5, v87), (6, v9), (7, v19), (12, .pointer (some ⟨b90, 0, none⟩)), (13, .pointer (some ⟨b101, 0, none⟩)), (24, h0), (25, I (a0.length : Int)), (26, I x24)] (Bx b101 95 [I x108, .string x60.2.2.2.1] :: Bx b90 45 [I x60.2.2.1, .string x60.2.2.2.1, .string x60.2.2.2.2.1, I x60.2.2.2.2.2] :: SN 41 4 nT41 v87 hs88 (y85) :: Bx b80 41 [I r74.1, .string r74.2.1, I r74.2.2.1, v78] :: OwnS 84 3 v76 (r73.map cTssi) :: Bx b62 90 [I x60.1, .bool x60.2.1, I x60.2.2.1, .string x60.2.2.2.1, .string x60.2.2.2.2.1, I x60.2.2.2.2.2] :: OwnS 90 6 v19 (y21.map cTibissi) :: SS 66 95 2 cTis v9 hs23 (y22) :: L) a w) ?_ ?_
                  · refine TC.cond rfl (fun hc110 => ?_) (fun hc110 => ?_)
                    · replace hj109 := cond_t hc110 hj109
                      refine TC.region ?_
                      refine TO.s rfl rfl rfl (StepS.fld rfl kfieldB_95_0_0_true) ?_
                      refine TO.stB (us := [I 3]) 0 [I 3, .string x60.2.2.2.1] rfl rfl rfl ksizeB_3_1_true rfl rfl rfl (by simp [Value.oneCell']) rfl ?_
                      cases hj109
                      refine TO.nil fun a w e s => ?_
                      exact ⟨e.sub (lk_of_allIn ⟨rfl, rfl, rfl, rfl, rfl, rfl, rfl, rfl, rfl, trivial⟩), s⟩
                    · replace hj109 := cond_f hc110 hj109
                      cases hj109
                      refine TC.skip fun a w e s => ?_
                      exact ⟨e.sub (lk_of_allIn ⟨rfl, rfl, rfl, rfl, rfl, rfl, rfl, rfl, rfl, trivial⟩), s⟩
                  · intro a w ⟨he, hs⟩
                    refine TC.use ?_ he hs
                    refine TC.k ?_
                    refine TC.region ?_
                    refine TO.s rfl rfl rfl (StepS.assign rfl) ?_
                    refine TO.code ?_
                    refine TC.k ?_
                    refine TC.region ?_
                    obtain ⟨y111, hk112, hj59⟩ := bind_some hj59
                    refine TO.mkS (f := cB) (za := false) kelemB_96_4_1_1_true kinfo_4_bind_zero_some_bool_false rfl (by decide) rfl rfl hk112 rfl fun v113 => ?_
                    refine TO.s rfl rfl rfl (StepS.assign rfl) ?_
                    refine TO.code ?_
                    refine TC.k ?_
                    refine TC.k ?_
                    refine TC.region ?_
                    refine TO.s rfl rfl rfl (StepS.move rfl) ?_
                    refine TO.s rfl rfl rfl (StepS.lenm rfl (OwnS.rd (Ent.at 7 rfl)) ksliceB_59_90_6_true rfl) ?_
                    refine TO.s rfl rfl rfl (StepS.move rfl) ?_
                    refine TO.code ?_
                    obtain ⟨o129, hw130, hj59⟩ := bind_some hj59
                    refine TC.loop hw130 (fun (y117, y118, x119) => fun a w => ∃ v115 : Value, Mid 169 B [(4, v76), (5, v87), (6, v9), (12, .pointer (some ⟨b90, 0, none⟩)), (13, .pointer (some ⟨b101, 0, none⟩)), (14, v115), (15, v113), (24, h0), (25, I (a0.length : Int)), (26, I x24), (86, v19), (87, I (y21.length : Int)), (88, I x119)] (OwnS 90 6 v115 (y117.map cTibissi) :: OwnS 4 1 v113 (y118.map cB) :: Bx b101 95 [I x108, .string x60.2.2.2.1] :: Bx b90 45 [I x60.2.2.1, .string x60.2.2.2.1, .string x60.2.2.2.2.1, I x60.2.2.2.2.2] :: SN 41 4 nT41 v87 hs88 (y85) :: Bx b80 41 [I r74.1, .string r74.2.1, I r74.2.2.1, v78] :: OwnS 84 3 v76 (r73.map cTssi) :: Bx b62 90 [I x60.1, .bool x60.2.1, I x60.2.2.1, .string x60.2.2.2.1, .string x60.2.2.2.2.1, I x60.2.2.2.2.2] :: OwnS 90 6 v19 (y21.map cTibissi) :: SS 66 95 2 cTis v9 hs23 (y22) :: L) a w) (fun (y127, y128) => fun a w => ∃ v125 : Value, Mid 169 B [(4, v76), (5, v87), (6, v9), (13, .pointer (some ⟨b101, 0, none⟩)), (14, v125), (15, v113), (24, h0), (25, I (a0.length : Int)), (26, I x24)] (OwnS 90 6 v125 (y127.map cTibissi) :: OwnS 4 1 v113 (y128.map cB) :: Bx b101 95 [I x108, .string x60.2.2.2.1] :: Bx b90 45 [I x60.2.2.1, .string x60.2.2.2.1, .string x60.2.2.2.2.1, I x60.2.2.2.2.2] :: SN 41 4 nT41 v87 hs88 (y85) :: Bx b80 41 [I r74.1, .string r74.2.1, I r74.2.2.1, v78] :: OwnS 84 3 v76 (r73.map cTssi) :: Bx b62 90 [I x60.1, .bool x60.2.1, I x60.2.2.1, .string x60.2.2.2.1, .string x60.2.2.2.2.1, I x60.2.2.2.2.2] :: OwnS 90 6 v19 (y21.map cTibissi) :: SS 66 95 2 cTis v9 hs23 (y22) :: L) a w) (fun (_ : Unit) _ _ => False) ?_ ?_ ?_ ?_
                    · rintro ⟨y117, y118, x119⟩ o129r hb131 a w ⟨v115, he, hs⟩
                      dsimp only [F23_L1] at hb131
                      refine TC.use ?_ he hs
                      refine TC.k ?_
                      refine TC.region ?_
                      refine TO.s rfl rfl rfl (StepS.cmp rfl rfl rfl) ?_
                      refine TO.code ?_
                      refine TC.k ?_
                      refine TC.cond rfl (fun hc132 => ?_) (fun hc132 => ?_)
                      · replace hb131 := cond_t hc132 hb131
                        refine TC.skipk ?_
                        refine TC.k ?_
                        obtain ⟨⟨y133, y135⟩, hj136, hb131⟩ := bind_some hb131
                        first | refine TC.cutM (fun a w => ∃ v134 : Value, Mid 169 B [(4, v76), (5, v87), (6, v9), (12, .pointer (some ⟨b90, 0, none⟩)), (13, .pointer (some ⟨b101, 0, none⟩)), (14, v134), (15, v113), (24, h0), (25, I (a0.length : Int)), (26, I x24), (86, v19), (87, I (y21.length : Int)), (88, I x119)] (OwnS 90 6 v134 (y133.map cTibissi) :: OwnS 4 1 v113 (y135.map cB) :: Bx b101 95 [I x108, .string x60.2.2.2.1] :: Bx b90 45 [I x60.2.2.1, .string x60.2.2.2.1, .string x60.2.2.2.2.1, I x60.2.2.2.2.2] :: SN 41 4 nT41 v87 hs88 (y85) :: Bx b80 41 [I r74.1, .string r74.2.1, I r74.2.2.1, v78] :: OwnS 84 3 v76 (r73.map cTssi) :: Bx b62 90 [I x60.1, .bool x60.2.1, I x60.2.2.1, .string x60.2.2.2.1, .string x60.2.2.2.2.1, I x60.2.2.2.2.2] :: OwnS 90 6 v19 (y21.map cTibissi) :: SS 66 95 2 cTis v9 hs23 (y22) :: L) a w) ?_ ?_ | refine TC.cutX (fun a w => ∃ v134 : Value, Mid 169 B [(4, v76), (5, v87), (6, v9), (12, .pointer (some ⟨b90, 0, none⟩)), (13, .pointer (some ⟨b101, 0, none⟩)), (14, v134), (15, v113), (24, h0), (25, I (a0.length : Int)), (26, I x24), (86, v19), (87, I (y21.length : Int)), (88, I x119)] (OwnS 90 6 v134 (y133.map cTibissi) :: OwnS 4 1 v113 (y135.map cB) :: Bx b101 95 [I x108, .string x60.2.2.2.1] :: Bx b90 45 [I x60.2.2.1, .string x60.2.2.2.1, .string x60.2.2.2.2.1, I x60.2.2.2.2.2] :: SN 41 4 nT41 v87 hs88 (y85) :: Bx b80 41 [I r74.1, .string r74.2.1, I r74.2.2.1, v78] :: OwnS 84 3 v76 (r73.map cTssi) :: Bx b62 90 [I x60.1, .bool x60.2.1, I x60.2.2.1, .string x60.2.2.2.1, .string x60.2.2.2.2.1, I x60.2.2.2.2.2] :: OwnS 90 6 v19 (y21.map cTibissi) :: SS 66 95 2 cTis v9 hs23 (y22) :: L) a w) ?_ ?_
                        · refine TC.block ?_
                          refine TC.k ?_
                          refine TC.region ?_
                          obtain ⟨x137, hx138, hj136⟩ := bind_some hj136
                          refine TO.s rfl rfl rfl (StepS.idx rfl rfl (OwnS.rd (Ent.at 8 rfl)) ksliceB_59_90_6_true (idx_spec hx138).1 (idxm_lt hx138)) ?_
                          refine TO.s rfl rfl rfl (StepS.ldE rfl (OwnS.rd (Ent.at 8 rfl)) kaggB_90_6_true rfl (idxm hx138)) ?_
                          refine TO.alloc kinfo_90_bind_zero_some_agg_I_0_bool_false_I_0_string_ByteArray_empty_string_ByteArray_empty_I_0 rfl rfl fun b139 => ?_
                          refine TO.stB (us := [I x137.1, .bool x137.2.1, I x137.2.2.1, .string x137.2.2.2.1, .string x137.2.2.2.2.1, I x137.2.2.2.2.2]) 0 [I x137.1, .bool x137.2.1, I x137.2.2.1, .string x137.2.2.2.1, .string x137.2.2.2.2.1, I x137.2.2.2.2.2] rfl rfl rfl ksizeB_90_6_true rfl rfl rfl (by simp [Value.oneCell']) rfl ?_
                          refine TO.code ?_
                          refine TC.k ?_
                          refine TC.region ?_
                          refine TO.s rfl rfl rfl (StepS.assign rfl) ?_
                          refine TO.code ?_
                          refine TC.k ?_
                          refine TC.k ?_
                          refine TC.region ?_
                          refine TO.s rfl rfl rfl (StepS.fld rfl kfieldB_45_0_0_true) ?_
                          refine TO.s rfl rfl rfl (StepS.ldB rfl (Ent.at 4 rfl) kscalB_3_true rfl) ?_
                          refine TO.s rfl rfl rfl (StepS.cmp rfl rfl rfl) ?_
                          refine TO.code ?_
                          obtain ⟨t140, hj141, hj136⟩ := bind_some hj136
                          first | refine TC.cutM (fun a w => Mid 169 B [(4, v76), (5, v87), (6, v9), (12, .pointer (some ⟨b90, 0, none⟩)), (13, .pointer (some ⟨b101, 0, none⟩)), (14, v115), (15, v113), (17, .pointer (some ⟨b139, 0, none⟩)), (18, .string t140), (24, h0), (25, I (a0.length : Int)), (26, I x24), (86, v19), (87, I (y21.length : Int)), (88, I x119)] (Bx b139 90 [I x137.1, .bool x137.2.1, I x137.2.2.1, .string x137.2.2.2.1, .string x137.2.2.2.2.1, I x137.2.2.2.2.2] :: OwnS 90 6 v115 (y117.map cTibissi) :: OwnS 4 1 v113 (y118.map cB) :: Bx b101 95 [I x108, .string x60.2.2.2.1] :: Bx b90 45 [I x60.2.2.1, .string x60.2.2.2.1, .string x60.2.2.2.2.1, I x60.2.2.2.2.2] :: SN 41 4 nT41 v87 hs88 (y85) :: Bx b80 41 [I r74.1, .string r74.2.1, I r74.2.2.1, v78] :: OwnS 84 3 v76 (r73.map cTssi) :: Bx b62 90 [I x60.1, .bool x60.2.1, I x60.2.2.1, .string x60.2.2.2.1, .string x60.2.2.2.2.1, I x60.2.2.2.2.2] :: OwnS 90 6 v19 (y21.map cTibissi) :: SS 66 95 2 cTis v9 hs23 (y22) :: L) a w) ?_ ?_ | refine TC.cutX (fun a w => Mid 169 B [(4, v76), (5, v87), (6, v9), (12, .pointer (some ⟨b90, 0, none⟩)), (13, .pointer (some ⟨b101, 0, none⟩)), (14, v115), (15, v113), (17, .pointer (some ⟨b139, 0, none⟩)), (18, .string t140), (24, h0), (25, I (a0.length : Int)), (26, I x24), (86, v19), (87, I (y21.length : Int)), (88, I x119)] (Bx b139 90 [I x137.1, .bool x137.2.1, I x137.2.2.1, .string x137.2.2.2.1, .string x137.2.2.2.2.1, I x137.2.2.2.2.2] :: OwnS 90 6 v115 (y117.map cTibissi) :: OwnS 4 1 v113 (y118.map cB) :: Bx b101 95 [I x108, .string x60.2.2.2.1] :: Bx b90 45 [I x60.2.2.1, .string x60.2.2.2.1, .string x60.2.2.2.2.1, I x60.2.2.2.2.2] :: SN 41 4 nT41 v87 hs88 (y85) :: Bx b80 41 [I r74.1, .string r74.2.1, I r74.2.2.1, v78] :: OwnS 84 3 v76 (r73.map cTssi) :: Bx b62 90 [I x60.1, .bool x60.2.1, I x60.2.2.1, .string x60.2.2.2.1, .string x60.2.2.2.2.1, I x60.2.2.2.2.2] :: OwnS 90 6 v19 (y21.map cTibissi) :: SS 66 95 2 cTis v9 hs23 (y22) :: L) a w) ?_ ?_
                          · refine TC.cond rfl (fun hc142 => ?_) (fun hc142 => ?_)
                            · replace hj141 := cond_t hc142 hj141
                              refine TC.region ?_
                              refine TO.s rfl rfl rfl (StepS.fld rfl kfieldB_45_1_1_true) ?_
                              refine TO.s rfl rfl rfl (StepS.ldB rfl (Ent.at 4 rfl) kscalB_9_true rfl) ?_
                              obtain ⟨⟨r143, r144⟩, hc145, hj141⟩ := bind_some hj141
                              refine TO.q rfl rfl rfl (StepQ.call kcallB_32_true rfl rfl (fun _ st => C32  hc145 st)) ?_
                              refine TO.s rfl rfl rfl (StepS.move rfl) ?_
                              refine TO.s rfl rfl rfl (StepS.extract rfl rfl) ?_
                              refine TO.s rfl rfl rfl (StepS.extract rfl rfl) ?_
                              refine TO.s rfl rfl rfl (StepS.assign rfl) ?_
                              cases hj141
                              refine TO.nil fun a w e s => ?_
                              exact ⟨e.sub (lk_of_allIn ⟨rfl, rfl, rfl, rfl, rfl, rfl, rfl, rfl, rfl, rfl, rfl, rfl, rfl, rfl, rfl, trivial⟩), s⟩
                            · replace hj141 := cond_f hc142 hj141
                              cases hj141
                              refine TC.skip fun a w e s => ?_
                              exact ⟨e.sub (lk_of_allIn ⟨rfl, rfl, rfl, rfl, rfl, rfl, rfl, rfl, rfl, rfl, rfl, rfl, rfl, rfl, rfl, trivial⟩), s⟩
                          · intro a w ⟨he, hs⟩
                            refine TC.use ?_ he hs
                            refine TC.k ?_
                            refine TC.region ?_
                            refine TO.s rfl rfl rfl (StepS.fld rfl kfieldB_90_2_2_true) ?_
                            refine TO.s rfl rfl rfl (StepS.fld rfl kfieldB_45_1_1_true) ?_
                            refine TO.s rfl rfl rfl (StepS.ldB rfl (Ent.at 0 rfl) kscalB_9_true rfl) ?_
                            refine TO.s rfl rfl rfl (StepS.fld rfl kfieldB_45_1_1_true) ?_
                            refine TO.s rfl rfl rfl (StepS.ldB rfl (Ent.at 4 rfl) kscalB_9_true rfl) ?_
                            refine TO.s rfl rfl rfl (StepS.cmpS kunderlying_9_some_string rfl rfl rfl) ?_
                            refine TO.s rfl rfl rfl (StepS.move rfl) ?_
                            refine TO.mid1 15 122 (.bool ((sEq x137.2.2.2.1 x60.2.2.2.1) && (((x60.2.2.1 == 2) && (x137.2.2.1 == 4)) || (x60.2.2.1 == 3)))) ?_ ?_
                            · refine bcase ((sEq x137.2.2.2.1 x60.2.2.2.1)) (fun hb146 => ?_) (fun hb146 => ?_)
                              · refine TO.sw rfl rfl rfl hb146 rfl rfl (StepS.fld rfl kfieldB_45_0_0_true) ?_
                                refine TO.sw rfl rfl rfl hb146 rfl rfl (StepS.ldB rfl (Ent.at 4 rfl) kscalB_3_true rfl) ?_
                                refine TO.sw rfl rfl rfl hb146 rfl rfl (StepS.cmp rfl rfl rfl) ?_
                                refine TO.sw rfl rfl rfl hb146 rfl rfl (StepS.move rfl) ?_
                                refine TO.mid1 5 116 (.bool ((x60.2.2.1 == 2) && (x137.2.2.1 == 4))) ?_ ?_
                                · refine bcase ((x60.2.2.1 == 2)) (fun hb147 => ?_) (fun hb147 => ?_)
                                  · refine TO.sw rfl rfl rfl hb147 rfl rfl (StepS.fld rfl kfieldB_90_2_2_true) ?_
                                    refine TO.sw rfl rfl rfl hb147 rfl rfl (StepS.fld rfl kfieldB_45_0_0_true) ?_
                                    refine TO.sw rfl rfl rfl hb147 rfl rfl (StepS.ldB rfl (Ent.at 0 rfl) kscalB_3_true rfl) ?_
                                    refine TO.sw rfl rfl rfl hb147 rfl rfl (StepS.cmp rfl rfl rfl) ?_
                                    refine TO.sw rfl rfl rfl hb146 rfl rfl (StepS.pickT rfl hb147 rfl) ?_
                                    exact TO.up1 5 0 rfl rfl (by rw [hb147]; rfl) rfl
                                  · refine TO.skip rfl rfl rfl (skipF hb147) rfl rfl ?_
                                    refine TO.skip rfl rfl rfl (skipF hb147) rfl rfl ?_
                                    refine TO.skip rfl rfl rfl (skipF hb147) rfl rfl ?_
                                    refine TO.skip rfl rfl rfl (skipF hb147) rfl rfl ?_
                                    refine TO.sw rfl rfl rfl hb146 rfl rfl (StepS.pickF rfl hb147 rfl) ?_
                                    exact TO.up1 5 0 rfl rfl (by rw [hb147]; rfl) rfl
                                refine TO.sw rfl rfl rfl hb146 rfl rfl (StepS.move rfl) ?_
                                refine TO.mid1 4 121 (.bool (((x60.2.2.1 == 2) && (x137.2.2.1 == 4)) || (x60.2.2.1 == 3))) ?_ ?_
                                · refine bcase (((x60.2.2.1 == 2) && (x137.2.2.1 == 4))) (fun hb148 => ?_) (fun hb148 => ?_)
                                  · refine TO.skip rfl rfl rfl (skipT hb148) rfl rfl ?_
                                    refine TO.skip rfl rfl rfl (skipT hb148) rfl rfl ?_
                                    refine TO.skip rfl rfl rfl (skipT hb148) rfl rfl ?_
                                    refine TO.sw rfl rfl rfl hb146 rfl rfl (StepS.pickT rfl hb148 rfl) ?_
                                    exact TO.up1 4 0 rfl rfl (by rw [hb148]; rfl) rfl
                                  · refine TO.sw rfl rfl rfl hb148 rfl rfl (StepS.fld rfl kfieldB_45_0_0_true) ?_
                                    refine TO.sw rfl rfl rfl hb148 rfl rfl (StepS.ldB rfl (Ent.at 4 rfl) kscalB_3_true rfl) ?_
                                    refine TO.sw rfl rfl rfl hb148 rfl rfl (StepS.cmp rfl rfl rfl) ?_
                                    refine TO.sw rfl rfl rfl hb146 rfl rfl (StepS.pickF rfl hb148 rfl) ?_
                                    exact TO.up1 4 0 rfl rfl (by rw [hb148]; rfl) rfl
                                refine TO.s rfl rfl rfl (StepS.pickT rfl hb146 rfl) ?_
                                exact TO.up1 8 0 rfl rfl (by rw [hb146]; rfl) rfl
                              · refine TO.skip rfl rfl rfl (skipF hb146) rfl rfl ?_
                                refine TO.skip rfl rfl rfl (skipF hb146) rfl rfl ?_
                                refine TO.skip rfl rfl rfl (skipF hb146) rfl rfl ?_
                                refine TO.skip rfl rfl rfl (skipF hb146) rfl rfl ?_
                                refine TO.skip rfl rfl rfl skipU rfl rfl ?_
                                refine TO.skip rfl rfl rfl skipU rfl rfl ?_
                                refine TO.skip rfl rfl rfl skipU rfl rfl ?_
                                refine TO.skip rfl rfl rfl skipU rfl rfl ?_
                                refine TO.skip rfl rfl rfl (skipF hb146) rfl rfl ?_
                                refine TO.skip rfl rfl rfl (skipF hb146) rfl rfl ?_
                                refine TO.skip rfl rfl rfl skipU rfl rfl ?_
                                refine TO.skip rfl rfl rfl skipU rfl rfl ?_
                                refine TO.skip rfl rfl rfl skipU rfl rfl ?_
                                refine TO.skip rfl rfl rfl (skipF hb146) rfl rfl ?_
                                refine TO.s rfl rfl rfl (StepS.pickF rfl hb146 rfl) ?_
                                exact TO.up1 15 0 rfl rfl (by rw [hb146]; rfl) rfl
                            refine TO.s rfl rfl rfl (StepS.assign rfl) ?_
                            refine TO.code ?_
                            refine TC.k ?_
                            refine TC.region ?_
                            refine TO.s rfl rfl rfl (StepS.fld rfl kfieldB_90_2_2_true) ?_
                            refine TO.s rfl rfl rfl (StepS.fld rfl kfieldB_45_0_0_true) ?_
                            refine TO.s rfl rfl rfl (StepS.ldB rfl (Ent.at 0 rfl) kscalB_3_true rfl) ?_
                            refine TO.s rfl rfl rfl (StepS.cmp rfl rfl rfl) ?_
                            refine TO.s rfl rfl rfl (StepS.move rfl) ?_
                            refine TO.mid1 6 133 (.bool ((x137.2.2.1 == 5) && (sEq x137.2.2.2.1 t140))) ?_ ?_
                            · refine bcase ((x137.2.2.1 == 5)) (fun hb149 => ?_) (fun hb149 => ?_)
                              · refine TO.sw rfl rfl rfl hb149 rfl rfl (StepS.fld rfl kfieldB_90_2_2_true) ?_
                                refine TO.sw rfl rfl rfl hb149 rfl rfl (StepS.fld rfl kfieldB_45_1_1_true) ?_
                                refine TO.sw rfl rfl rfl hb149 rfl rfl (StepS.ldB rfl (Ent.at 0 rfl) kscalB_9_true rfl) ?_
                                refine TO.sw rfl rfl rfl hb149 rfl rfl (StepS.move rfl) ?_
                                refine TO.sw rfl rfl rfl hb149 rfl rfl (StepS.cmpS kunderlying_9_some_string rfl rfl rfl) ?_
                                refine TO.s rfl rfl rfl (StepS.pickT rfl hb149 rfl) ?_
                                exact TO.up1 6 0 rfl rfl (by rw [hb149]; rfl) rfl
                              · refine TO.skip rfl rfl rfl (skipF hb149) rfl rfl ?_
                                refine TO.skip rfl rfl rfl (skipF hb149) rfl rfl ?_
                                refine TO.skip rfl rfl rfl (skipF hb149) rfl rfl ?_
                                refine TO.skip rfl rfl rfl (skipF hb149) rfl rfl ?_
                                refine TO.skip rfl rfl rfl (skipF hb149) rfl rfl ?_
                                refine TO.s rfl rfl rfl (StepS.pickF rfl hb149 rfl) ?_
                                exact TO.up1 6 0 rfl rfl (by rw [hb149]; rfl) rfl
                            refine TO.s rfl rfl rfl (StepS.assign rfl) ?_
                            refine TO.code ?_
                            refine TC.k ?_
                            refine TC.region ?_
                            refine TO.s rfl rfl rfl (StepS.move rfl) ?_
                            refine TO.s rfl rfl rfl (StepS.move rfl) ?_
                            refine TO.mid1 2 137 (.bool (((sEq x137.2.2.2.1 x60.2.2.2.1) && (((x60.2.2.1 == 2) && (x137.2.2.1 == 4)) || (x60.2.2.1 == 3))) || ((x137.2.2.1 == 5) && (sEq x137.2.2.2.1 t140)))) ?_ ?_
                            · refine bcase (((sEq x137.2.2.2.1 x60.2.2.2.1) && (((x60.2.2.1 == 2) && (x137.2.2.1 == 4)) || (x60.2.2.1 == 3)))) (fun hb150 => ?_) (fun hb150 => ?_)
                              · refine TO.skip rfl rfl rfl (skipT hb150) rfl rfl ?_
                                refine TO.s rfl rfl rfl (StepS.pickT rfl hb150 rfl) ?_
                                exact TO.up1 2 0 rfl rfl (by rw [hb150]; rfl) rfl
                              · refine TO.sw rfl rfl rfl hb150 rfl rfl (StepS.move rfl) ?_
                                refine TO.s rfl rfl rfl (StepS.pickF rfl hb150 rfl) ?_
                                exact TO.up1 2 0 rfl rfl (by rw [hb150]; rfl) rfl
                            refine TO.code ?_
                            refine TC.cond rfl (fun hc151 => ?_) (fun hc151 => ?_)
                            · replace hj136 := cond_t hc151 hj136
                              refine TC.region ?_
                              refine TO.s rfl rfl rfl (StepS.move rfl) ?_
                              refine TO.s rfl rfl rfl (StepS.fld rfl kfieldB_90_0_0_true) ?_
                              refine TO.s rfl rfl rfl (StepS.ldB rfl (Ent.at 0 rfl) kscalB_3_true rfl) ?_
                              obtain ⟨x152, hx153, hj136⟩ := bind_some hj136
                              refine TO.s rfl rfl rfl (StepS.idx rfl rfl (OwnS.rd (Ent.at 2 rfl)) ksliceB_96_4_1_true (idx_spec hx153).1 (idxm_lt hx153)) ?_
                              refine TO.stO (i := x137.1.toNat) (off := 0) (us := [.bool true]) 2 true rfl rfl rfl ksizeB_4_1_true rfl rfl rfl (idx_spec hx153).2 rfl (by simp [Value.oneCell']) rfl ?_
                              cases hj136
                              refine TO.nil fun a w e s => ?_
                              exact ⟨v115, e.sub (lk_of_allIn ⟨rfl, rfl, rfl, rfl, rfl, rfl, rfl, rfl, rfl, rfl, rfl, rfl, rfl, trivial⟩), s.mono fun _ => Sat.dropN 1⟩
                            · replace hj136 := cond_f hc151 hj136
                              refine TC.region ?_
                              refine TO.s rfl rfl rfl (StepS.move rfl) ?_
                              refine TO.s rfl rfl rfl (StepS.ldBA rfl (Ent.at 0 rfl) kaggB_90_6_true rfl rfl) ?_
                              refine TO.litS (f := cTibissi) ([(x137.1, x137.2.1, (x137.2.2.1, x137.2.2.2.1, x137.2.2.2.2.1, x137.2.2.2.2.2))] : List (Int × Bool × Int × ByteArray × ByteArray × Int)) kelemB_59_90_6_64_true kinfo_90_bind_zero_some_agg_I_0_bool_false_I_0_string_ByteArray_empty_string_ByteArray_empty_I_0 rfl rfl (fun _ => rfl) rfl rfl (by kernel_rfl) rfl fun v154 => ?_
                              obtain ⟨y156, hk157, hj136⟩ := bind_some hj136
                              refine TO.app (k := 2) (f := cTibissi) kelemB_59_90_6_64_true (by decide) rfl rfl rfl (OwnS.rd (Ent.at 0 rfl)) hk157 (fun x c hc => by simp [Value.oneCell'] at hc ⊢; first | (obtain rfl := hc; rfl) | (rcases hc with rfl | rfl | rfl | rfl | rfl | rfl <;> rfl)) rfl rfl fun v158 => ?_
                              refine TO.s rfl rfl rfl (StepS.assign rfl) ?_
                              cases hj136
                              refine TO.nil fun a w e s => ?_
                              exact ⟨v158, e.sub (lk_of_allIn ⟨rfl, rfl, rfl, rfl, rfl, rfl, rfl, rfl, rfl, rfl, rfl, rfl, rfl, trivial⟩), s.mono fun _ => Sat.dropN 2⟩
                        · intro a w ⟨v134, he, hs⟩
                          refine TC.use ?_ he hs
                          refine TC.region ?_
                          refine TO.s rfl rfl rfl (StepS.ari rfl rfl rfl) ?_
                          refine TO.s rfl rfl rfl (StepS.move rfl) ?_
                          cases hb131
                          refine TO.nil fun a w e s => ?_
                          exact ⟨v134, e.sub (lk_of_allIn ⟨rfl, rfl, rfl, rfl, rfl, rfl, rfl, rfl, rfl, rfl, rfl, rfl, rfl, trivial⟩), s⟩
                      · replace hb131 := cond_f hc132 hb131
                        cases hb131
                        refine TC.exit rfl fun a w e s => ?_
                        exact ⟨v115, e.sub (lk_of_allIn ⟨rfl, rfl, rfl, rfl, rfl, rfl, rfl, rfl, rfl, trivial⟩), s⟩
                    · exact fun a w e s => ⟨.slice none 0 0, e.sub (lk_of_allIn ⟨rfl, rfl, rfl, rfl, rfl, rfl, rfl, rfl, rfl, rfl, rfl, rfl, rfl, trivial⟩), s.mono fun _ s => (by replace s := Sat.nilS (e := 90) (sz := 6) (f := cTibissi) s; exact Sat.by [9, 9, 9, 9, 9, 9, 9, 9, 9, 9] 10 0 (by kernel_rfl) s)⟩
                    · rintro ⟨y127, y128⟩ rfl a w ⟨v125, he, hs⟩
                      dsimp only [Ctl.on] at hj59
                      refine TC.use ?_ he hs
                      refine TC.k ?_
                      refine TC.region ?_
                      refine TO.s rfl rfl rfl (StepS.move rfl) ?_
                      refine TO.s rfl rfl rfl (StepS.assign rfl) ?_
                      refine TO.code ?_
                      refine TC.k ?_
                      refine TC.region ?_
                      refine TO.s rfl rfl rfl (StepS.assign rfl) ?_
                      refine TO.code ?_
                      obtain ⟨o167, hw168, hj59⟩ := bind_some hj59
                      refine TC.loop hw168 (fun (y159, x161) => fun a w => ∃ hs160 : List Value, Mid 169 B [(4, v76), (5, v87), (6, v9), (7, v125), (13, .pointer (some ⟨b101, 0, none⟩)), (15, v113), (21, I x161), (24, h0), (25, I (a0.length : Int)), (26, I x24)] (OwnS 90 6 v125 (y127.map cTibissi) :: OwnS 4 1 v113 (y128.map cB) :: Bx b101 95 [I x108, .string x60.2.2.2.1] :: Bx b90 45 [I x60.2.2.1, .string x60.2.2.2.1, .string x60.2.2.2.2.1, I x60.2.2.2.2.2] :: SN 41 4 nT41 v87 hs88 (y85) :: Bx b80 41 [I r74.1, .string r74.2.1, I r74.2.2.1, v78] :: OwnS 84 3 v76 (r73.map cTssi) :: Bx b62 90 [I x60.1, .bool x60.2.1, I x60.2.2.1, .string x60.2.2.2.1, .string x60.2.2.2.2.1, I x60.2.2.2.2.2] :: OwnS 90 6 v19 (y21.map cTibissi) :: SS 66 95 2 cTis v9 hs160 (y159) :: L) a w) (fun y165 => fun a w => ∃ hs166 : List Value, Mid 169 B [(4, v76), (5, v87), (6, v9), (7, v125), (24, h0), (25, I (a0.length : Int)), (26, I x24)] (OwnS 90 6 v125 (y127.map cTibissi) :: OwnS 4 1 v113 (y128.map cB) :: Bx b101 95 [I x108, .string x60.2.2.2.1] :: Bx b90 45 [I x60.2.2.1, .string x60.2.2.2.1, .string x60.2.2.2.2.1, I x60.2.2.2.2.2] :: SN 41 4 nT41 v87 hs88 (y85) :: Bx b80 41 [I r74.1, .string r74.2.1, I r74.2.2.1, v78] :: OwnS 84 3 v76 (r73.map cTssi) :: Bx b62 90 [I x60.1, .bool x60.2.1, I x60.2.2.1, .string x60.2.2.2.1, .string x60.2.2.2.2.1, I x60.2.2.2.2.2] :: OwnS 90 6 v19 (y21.map cTibissi) :: SS 66 95 2 cTis v9 hs166 (y165) :: L) a w) (fun (_ : Unit) _ _ => False) ?_ ?_ ?_ ?_
                      · rintro ⟨y159, x161⟩ o167r hb169 a w ⟨hs160, he, hs⟩
                        dsimp only [F23_L2] at hb169
                        refine TC.use ?_ he hs
                        refine TC.k ?_
                        refine TC.k ?_
                        refine TC.region ?_
                        refine TO.s rfl rfl rfl (StepS.move rfl) ?_
                        refine TO.s rfl rfl rfl (StepS.cmp rfl rfl rfl) ?_
                        refine TO.code ?_
                        refine TC.cond rfl (fun hc170 => ?_) (fun hc170 => ?_)
                        · replace hb169 := cond_t hc170 hb169
                          refine TC.skipk ?_
                          refine TC.k ?_
                          obtain ⟨y171, hj173, hb169⟩ := bind_some hb169
                          first | refine TC.cutM (fun a w => ∃ hs172 : List Value, Mid 169 B [(4, v76), (5, v87), (6, v9), (7, v125), (13, .pointer (some ⟨b101, 0, none⟩)), (15, v113), (21, I x161), (24, h0), (25, I (a0.length : Int)), (26, I x24)] (OwnS 90 6 v125 (y127.map cTibissi) :: OwnS 4 1 v113 (y128.map cB) :: Bx b101 95 [I x108, .string x60.2.2.2.1] :: Bx b90 45 [I x60.2.2.1, .string x60.2.2.2.1, .string x60.2.2.2.2.1, I x60.2.2.2.2.2] :: SN 41 4 nT41 v87 hs88 (y85) :: Bx b80 41 [I r74.1, .string r74.2.1, I r74.2.2.1, v78] :: OwnS 84 3 v76 (r73.map cTssi) :: Bx b62 90 [I x60.1, .bool x60.2.1, I x60.2.2.1, .string x60.2.2.2.1, .string x60.2.2.2.2.1, I x60.2.2.2.2.2] :: OwnS 90 6 v19 (y21.map cTibissi) :: SS 66 95 2 cTis v9 hs172 (y171) :: L) a w) ?_ ?_ | refine TC.cutX (fun a w => ∃ hs172 : List Value, Mid 169 B [(4, v76), (5, v87), (6, v9), (7, v125), (13, .pointer (some ⟨b101, 0, none⟩)), (15, v113), (21, I x161), (24, h0), (25, I (a0.length : Int)), (26, I x24)] (OwnS 90 6 v125 (y127.map cTibissi) :: OwnS 4 1 v113 (y128.map cB) :: Bx b101 95 [I x108, .string x60.2.2.2.1] :: Bx b90 45 [I x60.2.2.1, .string x60.2.2.2.1, .string x60.2.2.2.2.1, I x60.2.2.2.2.2] :: SN 41 4 nT41 v87 hs88 (y85) :: Bx b80 41 [I r74.1, .string r74.2.1, I r74.2.2.1, v78] :: OwnS 84 3 v76 (r73.map cTssi) :: Bx b62 90 [I x60.1, .bool x60.2.1, I x60.2.2.1, .string x60.2.2.2.1, .string x60.2.2.2.2.1, I x60.2.2.2.2.2] :: OwnS 90 6 v19 (y21.map cTibissi) :: SS 66 95 2 cTis v9 hs172 (y171) :: L) a w) ?_ ?_
                          · refine TC.block ?_
                            refine TC.k ?_
                            refine TC.region ?_
                            refine TO.s rfl rfl rfl (StepS.move rfl) ?_
                            refine TO.s rfl rfl rfl (StepS.move rfl) ?_
                            obtain ⟨x174, hx175, hj173⟩ := bind_some hj173
                            refine TO.s rfl rfl rfl (StepS.idx rfl rfl (OwnS.rd (Ent.at 1 rfl)) ksliceB_96_4_1_true (idx_spec hx175).1 (idxm_lt hx175)) ?_
                            refine TO.s rfl rfl rfl (StepS.ld0 rfl (OwnS.rd (Ent.at 1 rfl)) kscalB_4_true rfl (idxm hx175) rfl) ?_
                            refine TO.code ?_
                            refine TC.cond rfl (fun hc176 => ?_) (fun hc176 => ?_)
                            · replace hj173 := cond_t hc176 hj173
                              obtain ⟨y178, hj180, hj173⟩ := bind_some hj173
                              first | refine TC.cutM (fun a w => ∃ hs179 : List Value, Mid 169 B [(4, v76), (5, v87), (6, v9), (7, v125), (13, .pointer (some ⟨b101, 0, none⟩)), (15, v113), (21, I x161), (24, h0), (25, I (a0.length : Int)), (26, I x24)] (OwnS 90 6 v125 (y127.map cTibissi) :: OwnS 4 1 v113 (y128.map cB) :: Bx b101 95 [I x108, .string x60.2.2.2.1] :: Bx b90 45 [I x60.2.2.1, .string x60.2.2.2.1, .string x60.2.2.2.2.1, I x60.2.2.2.2.2] :: SN 41 4 nT41 v87 hs88 (y85) :: Bx b80 41 [I r74.1, .string r74.2.1, I r74.2.2.1, v78] :: OwnS 84 3 v76 (r73.map cTssi) :: Bx b62 90 [I x60.1, .bool x60.2.1, I x60.2.2.1, .string x60.2.2.2.1, .string x60.2.2.2.2.1, I x60.2.2.2.2.2] :: OwnS 90 6 v19 (y21.map cTibissi) :: SS 66 95 2 cTis v9 hs179 (y178) :: L) a w) ?_ ?_ | refine TC.cutX (fun a w => ∃ hs179 : List Value, Mid 169 B [(4, v76), (5, v87), (6, v9), (7, v125), (13, .pointer (some ⟨b101, 0, none⟩)), (15, v113), (21, I x161), (24, h0), (25, I (a0.length : Int)), (26, I x24)] (OwnS 90 6 v125 (y127.map cTibissi) :: OwnS 4 1 v113 (y128.map cB) :: Bx b101 95 [I x108, .string x60.2.2.2.1] :: Bx b90 45 [I x60.2.2.1, .string x60.2.2.2.1, .string x60.2.2.2.2.1, I x60.2.2.2.2.2] :: SN 41 4 nT41 v87 hs88 (y85) :: Bx b80 41 [I r74.1, .string r74.2.1, I r74.2.2.1, v78] :: OwnS 84 3 v76 (r73.map cTssi) :: Bx b62 90 [I x60.1, .bool x60.2.1, I x60.2.2.1, .string x60.2.2.2.1, .string x60.2.2.2.2.1, I x60.2.2.2.2.2] :: OwnS 90 6 v19 (y21.map cTibissi) :: SS 66 95 2 cTis v9 hs179 (y178) :: L) a w) ?_ ?_
                              · obtain ⟨xq177_4_1, hxq177_4_2, hj180⟩ := bind_some hj180
                                obtain ⟨yq177_8_2, hkq177_8_3, hj180⟩ := bind_some hj180
                                obtain ⟨xq177_9_1, hxq177_9_2, hj180⟩ := bind_some hj180
                                refine TC.region_any (OwnS 90 6 v125 (y127.map cTibissi) :: OwnS 4 1 v113 (y128.map cB) :: Bx b101 95 [I x108, .string x60.2.2.2.1] :: Bx b90 45 [I x60.2.2.1, .string x60.2.2.2.1, .string x60.2.2.2.2.1, I x60.2.2.2.2.2] :: SN 41 4 nT41 v87 hs88 (y85) :: Bx b80 41 [I r74.1, .string r74.2.1, I r74.2.2.1, v78] :: OwnS 84 3 v76 (r73.map cTssi) :: Bx b62 90 [I x60.1, .bool x60.2.1, I x60.2.2.1, .string x60.2.2.2.1, .string x60.2.2.2.2.1, I x60.2.2.2.2.2] :: OwnS 90 6 v19 (y21.map cTibissi) :: L) 10 11 kfollows_mixedOrders_true rfl ?_
                                refine TA.takeW 0 rfl rfl rfl rfl (StepS.move rfl) (by kernel_rfl) (by kernel_rfl) (by kernel_rfl) rfl (.inr (fun _ s => Sat.by [8, 8, 8, 8, 8, 8, 8, 8, 8] 9 1 (by kernel_rfl) s)) ?_
                                refine TA.takeW 1 rfl rfl rfl rfl (StepS.move rfl) (by kernel_rfl) (by kernel_rfl) (by kernel_rfl) rfl (.inr (fun _ s => Sat.by [8, 8, 8, 8, 8, 8, 8, 8, 8] 9 1 (by kernel_rfl) s)) ?_
                                refine TA.takeW 2 rfl rfl rfl rfl (StepS.move rfl) (by kernel_rfl) (by kernel_rfl) (by kernel_rfl) rfl (.inr (fun _ s => Sat.by [8, 8, 8, 8, 8, 8, 8, 8, 8] 9 1 (by kernel_rfl) s)) ?_
                                refine TA.takeW 3 rfl rfl rfl rfl (StepS.move rfl) (by kernel_rfl) (by kernel_rfl) (by kernel_rfl) rfl (.inr (fun _ s => Sat.by [8, 8, 8, 8, 8, 8, 8, 8, 8] 9 1 (by kernel_rfl) s)) ?_
                                refine TA.take 6 rfl rfl rfl rfl (StepS.ldBA rfl (Ent.at 2 rfl) kaggB_95_2_true rfl rfl) (by kernel_rfl) (by kernel_rfl) (by kernel_rfl) (by kernel_rfl) (by kernel_rfl) (fun _ s => Sat.by [8, 8, 8, 8, 8, 8, 8, 8, 8] 9 1 (by kernel_rfl) s) ?_
                                refine TA.all2 (i := 4) (j := 7) (by kernel_rfl) ?_ ?_
                                · refine TB.of rfl ?_
                                  refine TO.s rfl rfl rfl (StepS.idxRR rfl rfl (SS.rr (Ent.at 9 rfl)) ksliceB_60_66_1_true hxq177_4_2) ?_
                                  refine TA.back (.inr (fun _ s => Sat.by [8, 8, 8, 8, 8, 8, 8, 8, 8] 9 1 (by kernel_rfl) s)) ?_
                                  refine TA.asL (L' := (OwnS 90 6 v125 (y127.map cTibissi) :: OwnS 4 1 v113 (y128.map cB) :: Bx b101 95 [I x108, .string x60.2.2.2.1] :: Bx b90 45 [I x60.2.2.1, .string x60.2.2.2.1, .string x60.2.2.2.2.1, I x60.2.2.2.2.2] :: SN 41 4 nT41 v87 hs88 (y85) :: Bx b80 41 [I r74.1, .string r74.2.1, I r74.2.2.1, v78] :: OwnS 84 3 v76 (r73.map cTssi) :: Bx b62 90 [I x60.1, .bool x60.2.1, I x60.2.2.1, .string x60.2.2.2.1, .string x60.2.2.2.2.1, I x60.2.2.2.2.2] :: OwnS 90 6 v19 (y21.map cTibissi) :: SS 66 95 2 cTis v9 hs160 (y159) :: L)) (listed' := #[true, true, true, true, true, false, true, false, false, false, false]) (by kernel_rfl) (by kernel_rfl) ?_
                                  refine TA.all2 (i := 5) (j := 7) (by kernel_rfl) ?_ ?_
                                  · refine TB.of rfl ?_
                                    refine TO.s rfl rfl rfl (StepS.ldRR rfl (SS.rr (Ent.at 9 rfl)) kscalB_66_true hxq177_4_2) ?_
                                    refine TA.back (.inr (fun _ s => Sat.by [8, 8, 8, 8, 8, 8, 8, 8, 8] 9 1 (by kernel_rfl) s)) ?_
                                    refine TA.asL (L' := (OwnS 90 6 v125 (y127.map cTibissi) :: OwnS 4 1 v113 (y128.map cB) :: Bx b101 95 [I x108, .string x60.2.2.2.1] :: Bx b90 45 [I x60.2.2.1, .string x60.2.2.2.1, .string x60.2.2.2.2.1, I x60.2.2.2.2.2] :: SN 41 4 nT41 v87 hs88 (y85) :: Bx b80 41 [I r74.1, .string r74.2.1, I r74.2.2.1, v78] :: OwnS 84 3 v76 (r73.map cTssi) :: Bx b62 90 [I x60.1, .bool x60.2.1, I x60.2.2.1, .string x60.2.2.2.1, .string x60.2.2.2.2.1, I x60.2.2.2.2.2] :: OwnS 90 6 v19 (y21.map cTibissi) :: SS 66 95 2 cTis v9 hs160 (y159) :: L)) (listed' := #[true, true, true, true, true, true, true, false, false, false, false]) (by kernel_rfl) (by kernel_rfl) ?_
                                    refine TA.all1 (i := 7) (by kernel_rfl) ?_
                                    refine TB.of rfl ?_
                                    refine TO.litS (f := cTis) ([(x108, x60.2.2.2.1)] : List (Int × ByteArray)) kelemB_66_95_2_24_true kinfo_95_bind_zero_some_agg_I_0_string_ByteArray_empty rfl rfl (fun _ => rfl) rfl rfl (by kernel_rfl) rfl fun vq177_7_1 => ?_
                                    refine TA.back (.inr (fun _ s => Sat.by [9, 9, 9, 9, 9, 9, 9, 9, 9] 9 2 (by kernel_rfl) s)) ?_
                                    refine TA.asL (L' := (OwnS 95 2 vq177_7_1 (([(x108, x60.2.2.2.1)] : List (Int × ByteArray)).map cTis) :: OwnS 90 6 v125 (y127.map cTibissi) :: OwnS 4 1 v113 (y128.map cB) :: Bx b101 95 [I x108, .string x60.2.2.2.1] :: Bx b90 45 [I x60.2.2.1, .string x60.2.2.2.1, .string x60.2.2.2.2.1, I x60.2.2.2.2.2] :: SN 41 4 nT41 v87 hs88 (y85) :: Bx b80 41 [I r74.1, .string r74.2.1, I r74.2.2.1, v78] :: OwnS 84 3 v76 (r73.map cTssi) :: Bx b62 90 [I x60.1, .bool x60.2.1, I x60.2.2.1, .string x60.2.2.2.1, .string x60.2.2.2.2.1, I x60.2.2.2.2.2] :: OwnS 90 6 v19 (y21.map cTibissi) :: SS 66 95 2 cTis v9 hs160 (y159) :: L)) (listed' := #[true, true, true, true, true, true, true, true, false, false, false]) (by kernel_rfl) (by kernel_rfl) ?_
                                    refine TA.all1 (i := 8) (by kernel_rfl) ?_
                                    refine TB.of rfl ?_
                                    refine TO.ghost (fun _ s => Sat.front 10 rfl s) ?_
                                    refine TO.ghost (fun _ s => Sat.openRow hxq177_4_2 s) ?_
                                    refine TO.app (k := 0) (f := cTis) kelemB_66_95_2_24_true (by decide) rfl rfl rfl (OwnS.rd (Ent.at 2 rfl)) hkq177_8_3 (fun x c hc => by simp [Value.oneCell'] at hc ⊢; first | (obtain rfl := hc; rfl) | (rcases hc with rfl | rfl <;> rfl)) rfl rfl fun vq177_8_4 => ?_
                                    refine TA.back (.inr (fun _ s => Sat.by [11, 11, 11, 11, 11, 11, 11, 11, 11] 9 3 (by kernel_rfl) s)) ?_
                                    refine TA.asL (L' := (OwnS 95 2 vq177_8_4 (yq177_8_2.map cTis) :: SSh 66 95 2 cTis v9 hs160 (y159) x161.toNat :: OwnS 95 2 vq177_7_1 (([(x108, x60.2.2.2.1)] : List (Int × ByteArray)).map cTis) :: OwnS 90 6 v125 (y127.map cTibissi) :: OwnS 4 1 v113 (y128.map cB) :: Bx b101 95 [I x108, .string x60.2.2.2.1] :: Bx b90 45 [I x60.2.2.1, .string x60.2.2.2.1, .string x60.2.2.2.2.1, I x60.2.2.2.2.2] :: SN 41 4 nT41 v87 hs88 (y85) :: Bx b80 41 [I r74.1, .string r74.2.1, I r74.2.2.1, v78] :: OwnS 84 3 v76 (r73.map cTssi) :: Bx b62 90 [I x60.1, .bool x60.2.1, I x60.2.2.1, .string x60.2.2.2.1, .string x60.2.2.2.2.1, I x60.2.2.2.2.2] :: OwnS 90 6 v19 (y21.map cTibissi) :: L)) (listed' := #[true, true, true, true, true, true, true, true, true, false, false]) (by kernel_rfl) (by kernel_rfl) ?_
                                    refine TA.all1 (i := 9) (by kernel_rfl) ?_
                                    refine TB.of rfl ?_
                                    refine TO.s rfl rfl rfl (StepS.idxRH rfl rfl (Ent.at 1 rfl) ksliceB_60_66_1_true hxq177_9_2) ?_
                                    refine TA.back (.inr (fun _ s => Sat.by [11, 11, 11, 11, 11, 11, 11, 11, 11] 9 3 (by kernel_rfl) s)) ?_
                                    refine TA.asL (L' := (OwnS 95 2 vq177_8_4 (yq177_8_2.map cTis) :: SSh 66 95 2 cTis v9 hs160 (y159) x161.toNat :: OwnS 95 2 vq177_7_1 (([(x108, x60.2.2.2.1)] : List (Int × ByteArray)).map cTis) :: OwnS 90 6 v125 (y127.map cTibissi) :: OwnS 4 1 v113 (y128.map cB) :: Bx b101 95 [I x108, .string x60.2.2.2.1] :: Bx b90 45 [I x60.2.2.1, .string x60.2.2.2.1, .string x60.2.2.2.2.1, I x60.2.2.2.2.2] :: SN 41 4 nT41 v87 hs88 (y85) :: Bx b80 41 [I r74.1, .string r74.2.1, I r74.2.2.1, v78] :: OwnS 84 3 v76 (r73.map cTssi) :: Bx b62 90 [I x60.1, .bool x60.2.1, I x60.2.2.1, .string x60.2.2.2.1, .string x60.2.2.2.2.1, I x60.2.2.2.2.2] :: OwnS 90 6 v19 (y21.map cTibissi) :: L)) (listed' := #[true, true, true, true, true, true, true, true, true, true, false]) (by kernel_rfl) (by kernel_rfl) ?_
                                    refine TA.all1 (i := 10) (by kernel_rfl) ?_
                                    refine TB.of rfl ?_
                                    refine TO.ghost (fun _ s => Sat.front 1 rfl s) ?_
                                    refine TO.stRowH (xs := yq177_8_2) rfl rfl hxq177_9_2 ksizeB_66_1_true ?_
                                    refine TA.back (.inl (by kernel_rfl)) ?_
                                    refine TA.asL (L' := (SS 66 95 2 cTis v9 (hs160.set x161.toNat vq177_8_4) (y159.set x161.toNat yq177_8_2) :: OwnS 95 2 vq177_7_1 (([(x108, x60.2.2.2.1)] : List (Int × ByteArray)).map cTis) :: OwnS 90 6 v125 (y127.map cTibissi) :: OwnS 4 1 v113 (y128.map cB) :: Bx b101 95 [I x108, .string x60.2.2.2.1] :: Bx b90 45 [I x60.2.2.1, .string x60.2.2.2.1, .string x60.2.2.2.2.1, I x60.2.2.2.2.2] :: SN 41 4 nT41 v87 hs88 (y85) :: Bx b80 41 [I r74.1, .string r74.2.1, I r74.2.2.1, v78] :: OwnS 84 3 v76 (r73.map cTssi) :: Bx b62 90 [I x60.1, .bool x60.2.1, I x60.2.2.1, .string x60.2.2.2.1, .string x60.2.2.2.2.1, I x60.2.2.2.2.2] :: OwnS 90 6 v19 (y21.map cTibissi) :: L)) (listed' := #[true, true, true, true, true, true, true, true, true, true, true]) (by kernel_rfl) (by kernel_rfl) ?_
                                    cases hj180
                                    refine TA.nil (by kernel_rfl) fun a w e s => ?_
                                    exact ⟨(hs160.set x161.toNat vq177_8_4), e.sub (lk_of_allIn ⟨rfl, rfl, rfl, rfl, rfl, rfl, rfl, rfl, rfl, rfl, trivial⟩), s.mono fun _ s => (by exact Sat.by [0, 10, 10, 10, 10, 10, 10, 10, 10, 10] 10 1 (by kernel_rfl) s)⟩
                                  · refine TB.of rfl ?_
                                    refine TO.litS (f := cTis) ([(x108, x60.2.2.2.1)] : List (Int × ByteArray)) kelemB_66_95_2_24_true kinfo_95_bind_zero_some_agg_I_0_string_ByteArray_empty rfl rfl (fun _ => rfl) rfl rfl (by kernel_rfl) rfl fun vq177_7_1 => ?_
                                    refine TA.back (.inr (fun _ s => Sat.by [9, 9, 9, 9, 9, 9, 9, 9, 9] 9 2 (by kernel_rfl) s)) ?_
                                    refine TA.asL (L' := (OwnS 95 2 vq177_7_1 (([(x108, x60.2.2.2.1)] : List (Int × ByteArray)).map cTis) :: OwnS 90 6 v125 (y127.map cTibissi) :: OwnS 4 1 v113 (y128.map cB) :: Bx b101 95 [I x108, .string x60.2.2.2.1] :: Bx b90 45 [I x60.2.2.1, .string x60.2.2.2.1, .string x60.2.2.2.2.1, I x60.2.2.2.2.2] :: SN 41 4 nT41 v87 hs88 (y85) :: Bx b80 41 [I r74.1, .string r74.2.1, I r74.2.2.1, v78] :: OwnS 84 3 v76 (r73.map cTssi) :: Bx b62 90 [I x60.1, .bool x60.2.1, I x60.2.2.1, .string x60.2.2.2.1, .string x60.2.2.2.2.1, I x60.2.2.2.2.2] :: OwnS 90 6 v19 (y21.map cTibissi) :: SS 66 95 2 cTis v9 hs160 (y159) :: L)) (listed' := #[true, true, true, true, true, false, true, true, false, false, false]) (by kernel_rfl) (by kernel_rfl) ?_
                                    refine TA.all1 (i := 5) (by kernel_rfl) ?_
                                    refine TB.of rfl ?_
                                    refine TO.s rfl rfl rfl (StepS.ldRR rfl (SS.rr (Ent.at 10 rfl)) kscalB_66_true hxq177_4_2) ?_
                                    refine TA.back (.inr (fun _ s => Sat.by [9, 9, 9, 9, 9, 9, 9, 9, 9] 9 2 (by kernel_rfl) s)) ?_
                                    refine TA.asL (L' := (OwnS 95 2 vq177_7_1 (([(x108, x60.2.2.2.1)] : List (Int × ByteArray)).map cTis) :: OwnS 90 6 v125 (y127.map cTibissi) :: OwnS 4 1 v113 (y128.map cB) :: Bx b101 95 [I x108, .string x60.2.2.2.1] :: Bx b90 45 [I x60.2.2.1, .string x60.2.2.2.1, .string x60.2.2.2.2.1, I x60.2.2.2.2.2] :: SN 41 4 nT41 v87 hs88 (y85) :: Bx b80 41 [I r74.1, .string r74.2.1, I r74.2.2.1, v78] :: OwnS 84 3 v76 (r73.map cTssi) :: Bx b62 90 [I x60.1, .bool x60.2.1, I x60.2.2.1, .string x60.2.2.2.1, .string x60.2.2.2.2.1, I x60.2.2.2.2.2] :: OwnS 90 6 v19 (y21.map cTibissi) :: SS 66 95 2 cTis v9 hs160 (y159) :: L)) (listed' := #[true, true, true, true, true, true, true, true, false, false, false]) (by kernel_rfl) (by kernel_rfl) ?_
                                    refine TA.all1 (i := 8) (by kernel_rfl) ?_
                                    refine TB.of rfl ?_
                                    refine TO.ghost (fun _ s => Sat.front 10 rfl s) ?_
                                    refine TO.ghost (fun _ s => Sat.openRow hxq177_4_2 s) ?_
                                    refine TO.app (k := 0) (f := cTis) kelemB_66_95_2_24_true (by decide) rfl rfl rfl (OwnS.rd (Ent.at 2 rfl)) hkq177_8_3 (fun x c hc => by simp [Value.oneCell'] at hc ⊢; first | (obtain rfl := hc; rfl) | (rcases hc with rfl | rfl <;> rfl)) rfl rfl fun vq177_8_4 => ?_
                                    refine TA.back (.inr (fun _ s => Sat.by [11, 11, 11, 11, 11, 11, 11, 11, 11] 9 3 (by kernel_rfl) s)) ?_
                                    refine TA.asL (L' := (OwnS 95 2 vq177_8_4 (yq177_8_2.map cTis) :: SSh 66 95 2 cTis v9 hs160 (y159) x161.toNat :: OwnS 95 2 vq177_7_1 (([(x108, x60.2.2.2.1)] : List (Int × ByteArray)).map cTis) :: OwnS 90 6 v125 (y127.map cTibissi) :: OwnS 4 1 v113 (y128.map cB) :: Bx b101 95 [I x108, .string x60.2.2.2.1] :: Bx b90 45 [I x60.2.2.1, .string x60.2.2.2.1, .string x60.2.2.2.2.1, I x60.2.2.2.2.2] :: SN 41 4 nT41 v87 hs88 (y85) :: Bx b80 41 [I r74.1, .string r74.2.1, I r74.2.2.1, v78] :: OwnS 84 3 v76 (r73.map cTssi) :: Bx b62 90 [I x60.1, .bool x60.2.1, I x60.2.2.1, .string x60.2.2.2.1, .string x60.2.2.2.2.1, I x60.2.2.2.2.2] :: OwnS 90 6 v19 (y21.map cTibissi) :: L)) (listed' := #[true, true, true, true, true, true, true, true, true, false, false]) (by kernel_rfl) (by kernel_rfl) ?_
                                    refine TA.all1 (i := 9) (by kernel_rfl) ?_
                                    refine TB.of rfl ?_
                                    refine TO.s rfl rfl rfl (StepS.idxRH rfl rfl (Ent.at 1 rfl) ksliceB_60_66_1_true hxq177_9_2) ?_
                                    refine TA.back (.inr (fun _ s => Sat.by [11, 11, 11, 11, 11, 11, 11, 11, 11] 9 3 (by kernel_rfl) s)) ?_
                                    refine TA.asL (L' := (OwnS 95 2 vq177_8_4 (yq177_8_2.map cTis) :: SSh 66 95 2 cTis v9 hs160 (y159) x161.toNat :: OwnS 95 2 vq177_7_1 (([(x108, x60.2.2.2.1)] : List (Int × ByteArray)).map cTis) :: OwnS 90 6 v125 (y127.map cTibissi) :: OwnS 4 1 v113 (y128.map cB) :: Bx b101 95 [I x108, .string x60.2.2.2.1] :: Bx b90 45 [I x60.2.2.1, .string x60.2.2.2.1, .string x60.2.2.2.2.1, I x60.2.2.2.2.2] :: SN 41 4 nT41 v87 hs88 (y85) :: Bx b80 41 [I r74.1, .string r74.2.1, I r74.2.2.1, v78] :: OwnS 84 3 v76 (r73.map cTssi) :: Bx b62 90 [I x60.1, .bool x60.2.1, I x60.2.2.1, .string x60.2.2.2.1, .string x60.2.2.2.2.1, I x60.2.2.2.2.2] :: OwnS 90 6 v19 (y21.map cTibissi) :: L)) (listed' := #[true, true, true, true, true, true, true, true, true, true, false]) (by kernel_rfl) (by kernel_rfl) ?_
                                    refine TA.all1 (i := 10) (by kernel_rfl) ?_
                                    refine TB.of rfl ?_
                                    refine TO.ghost (fun _ s => Sat.front 1 rfl s) ?_
                                    refine TO.stRowH (xs := yq177_8_2) rfl rfl hxq177_9_2 ksizeB_66_1_true ?_
                                    refine TA.back (.inl (by kernel_rfl)) ?_
                                    refine TA.asL (L' := (SS 66 95 2 cTis v9 (hs160.set x161.toNat vq177_8_4) (y159.set x161.toNat yq177_8_2) :: OwnS 95 2 vq177_7_1 (([(x108, x60.2.2.2.1)] : List (Int × ByteArray)).map cTis) :: OwnS 90 6 v125 (y127.map cTibissi) :: OwnS 4 1 v113 (y128.map cB) :: Bx b101 95 [I x108, .string x60.2.2.2.1] :: Bx b90 45 [I x60.2.2.1, .string x60.2.2.2.1, .string x60.2.2.2.2.1, I x60.2.2.2.2.2] :: SN 41 4 nT41 v87 hs88 (y85) :: Bx b80 41 [I r74.1, .string r74.2.1, I r74.2.2.1, v78] :: OwnS 84 3 v76 (r73.map cTssi) :: Bx b62 90 [I x60.1, .bool x60.2.1, I x60.2.2.1, .string x60.2.2.2.1, .string x60.2.2.2.2.1, I x60.2.2.2.2.2] :: OwnS 90 6 v19 (y21.map cTibissi) :: L)) (listed' := #[true, true, true, true, true, true, true, true, true, true, true]) (by kernel_rfl) (by kernel_rfl) ?_
                                    cases hj180
                                    refine TA.nil (by kernel_rfl) fun a w e s => ?_
                                    exact ⟨(hs160.set x161.toNat vq177_8_4), e.sub (lk_of_allIn ⟨rfl, rfl, rfl, rfl, rfl, rfl, rfl, rfl, rfl, rfl, trivial⟩), s.mono fun _ s => (by exact Sat.by [0, 10, 10, 10, 10, 10, 10, 10, 10, 10] 10 1 (by kernel_rfl) s)⟩
                                · refine TB.of rfl ?_
                                  refine TO.litS (f := cTis) ([(x108, x60.2.2.2.1)] : List (Int × ByteArray)) kelemB_66_95_2_24_true kinfo_95_bind_zero_some_agg_I_0_string_ByteArray_empty rfl rfl (fun _ => rfl) rfl rfl (by kernel_rfl) rfl fun vq177_7_1 => ?_
                                  refine TA.back (.inr (fun _ s => Sat.by [9, 9, 9, 9, 9, 9, 9, 9, 9] 9 2 (by kernel_rfl) s)) ?_
                                  refine TA.asL (L' := (OwnS 95 2 vq177_7_1 (([(x108, x60.2.2.2.1)] : List (Int × ByteArray)).map cTis) :: OwnS 90 6 v125 (y127.map cTibissi) :: OwnS 4 1 v113 (y128.map cB) :: Bx b101 95 [I x108, .string x60.2.2.2.1] :: Bx b90 45 [I x60.2.2.1, .string x60.2.2.2.1, .string x60.2.2.2.2.1, I x60.2.2.2.2.2] :: SN 41 4 nT41 v87 hs88 (y85) :: Bx b80 41 [I r74.1, .string r74.2.1, I r74.2.2.1, v78] :: OwnS 84 3 v76 (r73.map cTssi) :: Bx b62 90 [I x60.1, .bool x60.2.1, I x60.2.2.1, .string x60.2.2.2.1, .string x60.2.2.2.2.1, I x60.2.2.2.2.2] :: OwnS 90 6 v19 (y21.map cTibissi) :: SS 66 95 2 cTis v9 hs160 (y159) :: L)) (listed' := #[true, true, true, true, false, false, true, true, false, false, false]) (by kernel_rfl) (by kernel_rfl) ?_
                                  refine TA.all1 (i := 4) (by kernel_rfl) ?_
                                  refine TB.of rfl ?_
                                  refine TO.s rfl rfl rfl (StepS.idxRR rfl rfl (SS.rr (Ent.at 10 rfl)) ksliceB_60_66_1_true hxq177_4_2) ?_
                                  refine TA.back (.inr (fun _ s => Sat.by [9, 9, 9, 9, 9, 9, 9, 9, 9] 9 2 (by kernel_rfl) s)) ?_
                                  refine TA.asL (L' := (OwnS 95 2 vq177_7_1 (([(x108, x60.2.2.2.1)] : List (Int × ByteArray)).map cTis) :: OwnS 90 6 v125 (y127.map cTibissi) :: OwnS 4 1 v113 (y128.map cB) :: Bx b101 95 [I x108, .string x60.2.2.2.1] :: Bx b90 45 [I x60.2.2.1, .string x60.2.2.2.1, .string x60.2.2.2.2.1, I x60.2.2.2.2.2] :: SN 41 4 nT41 v87 hs88 (y85) :: Bx b80 41 [I r74.1, .string r74.2.1, I r74.2.2.1, v78] :: OwnS 84 3 v76 (r73.map cTssi) :: Bx b62 90 [I x60.1, .bool x60.2.1, I x60.2.2.1, .string x60.2.2.2.1, .string x60.2.2.2.2.1, I x60.2.2.2.2.2] :: OwnS 90 6 v19 (y21.map cTibissi) :: SS 66 95 2 cTis v9 hs160 (y159) :: L)) (listed' := #[true, true, true, true, true, false, true, true, false, false, false]) (by kernel_rfl) (by kernel_rfl) ?_
                                  refine TA.all1 (i := 5) (by kernel_rfl) ?_
                                  refine TB.of rfl ?_
                                  refine TO.s rfl rfl rfl (StepS.ldRR rfl (SS.rr (Ent.at 10 rfl)) kscalB_66_true hxq177_4_2) ?_
                                  refine TA.back (.inr (fun _ s => Sat.by [9, 9, 9, 9, 9, 9, 9, 9, 9] 9 2 (by kernel_rfl) s)) ?_
                                  refine TA.asL (L' := (OwnS 95 2 vq177_7_1 (([(x108, x60.2.2.2.1)] : List (Int × ByteArray)).map cTis) :: OwnS 90 6 v125 (y127.map cTibissi) :: OwnS 4 1 v113 (y128.map cB) :: Bx b101 95 [I x108, .string x60.2.2.2.1] :: Bx b90 45 [I x60.2.2.1, .string x60.2.2.2.1, .string x60.2.2.2.2.1, I x60.2.2.2.2.2] :: SN 41 4 nT41 v87 hs88 (y85) :: Bx b80 41 [I r74.1, .string r74.2.1, I r74.2.2.1, v78] :: OwnS 84 3 v76 (r73.map cTssi) :: Bx b62 90 [I x60.1, .bool x60.2.1, I x60.2.2.1, .string x60.2.2.2.1, .string x60.2.2.2.2.1, I x60.2.2.2.2.2] :: OwnS 90 6 v19 (y21.map cTibissi) :: SS 66 95 2 cTis v9 hs160 (y159) :: L)) (listed' := #[true, true, true, true, true, true, true, true, false, false, false]) (by kernel_rfl) (by kernel_rfl) ?_
                                  refine TA.all1 (i := 8) (by kernel_rfl) ?_
                                  refine TB.of rfl ?_
                                  refine TO.ghost (fun _ s => Sat.front 10 rfl s) ?_
                                  refine TO.ghost (fun _ s => Sat.openRow hxq177_4_2 s) ?_
                                  refine TO.app (k := 0) (f := cTis) kelemB_66_95_2_24_true (by decide) rfl rfl rfl (OwnS.rd (Ent.at 2 rfl)) hkq177_8_3 (fun x c hc => by simp [Value.oneCell'] at hc ⊢; first | (obtain rfl := hc; rfl) | (rcases hc with rfl | rfl <;> rfl)) rfl rfl fun vq177_8_4 => ?_
                                  refine TA.back (.inr (fun _ s => Sat.by [11, 11, 11, 11, 11, 11, 11, 11, 11] 9 3 (by kernel_rfl) s)) ?_
                                  refine TA.asL (L' := (OwnS 95 2 vq177_8_4 (yq177_8_2.map cTis) :: SSh 66 95 2 cTis v9 hs160 (y159) x161.toNat :: OwnS 95 2 vq177_7_1 (([(x108, x60.2.2.2.1)] : List (Int × ByteArray)).map cTis) :: OwnS 90 6 v125 (y127.map cTibissi) :: OwnS 4 1 v113 (y128.map cB) :: Bx b101 95 [I x108, .string x60.2.2.2.1] :: Bx b90 45 [I x60.2.2.1, .string x60.2.2.2.1, .string x60.2.2.2.2.1, I x60.2.2.2.2.2] :: SN 41 4 nT41 v87 hs88 (y85) :: Bx b80 41 [I r74.1, .string r74.2.1, I r74.2.2.1, v78] :: OwnS 84 3 v76 (r73.map cTssi) :: Bx b62 90 [I x60.1, .bool x60.2.1, I x60.2.2.1, .string x60.2.2.2.1, .string x60.2.2.2.2.1, I x60.2.2.2.2.2] :: OwnS 90 6 v19 (y21.map cTibissi) :: L)) (listed' := #[true, true, true, true, true, true, true, true, true, false, false]) (by kernel_rfl) (by kernel_rfl) ?_
                                  refine TA.all1 (i := 9) (by kernel_rfl) ?_
                                  refine TB.of rfl ?_
                                  refine TO.s rfl rfl rfl (StepS.idxRH rfl rfl (Ent.at 1 rfl) ksliceB_60_66_1_true hxq177_9_2) ?_
                                  refine TA.back (.inr (fun _ s => Sat.by [11, 11, 11, 11, 11, 11, 11, 11, 11] 9 3 (by kernel_rfl) s)) ?_
                                  refine TA.asL (L' := (OwnS 95 2 vq177_8_4 (yq177_8_2.map cTis) :: SSh 66 95 2 cTis v9 hs160 (y159) x161.toNat :: OwnS 95 2 vq177_7_1 (([(x108, x60.2.2.2.1)] : List (Int × ByteArray)).map cTis) :: OwnS 90 6 v125 (y127.map cTibissi) :: OwnS 4 1 v113 (y128.map cB) :: Bx b101 95 [I x108, .string x60.2.2.2.1] :: Bx b90 45 [I x60.2.2.1, .string x60.2.2.2.1, .string x60.2.2.2.2.1, I x60.2.2.2.2.2] :: SN 41 4 nT41 v87 hs88 (y85) :: Bx b80 41 [I r74.1, .string r74.2.1, I r74.2.2.1, v78] :: OwnS 84 3 v76 (r73.map cTssi) :: Bx b62 90 [I x60.1, .bool x60.2.1, I x60.2.2.1, .string x60.2.2.2.1, .string x60.2.2.2.2.1, I x60.2.2.2.2.2] :: OwnS 90 6 v19 (y21.map cTibissi) :: L)) (listed' := #[true, true, true, true, true, true, true, true, true, true, false]) (by kernel_rfl) (by kernel_rfl) ?_
                                  refine TA.all1 (i := 10) (by kernel_rfl) ?_
                                  refine TB.of rfl ?_
                                  refine TO.ghost (fun _ s => Sat.front 1 rfl s) ?_
                                  refine TO.stRowH (xs := yq177_8_2) rfl rfl hxq177_9_2 ksizeB_66_1_true ?_
                                  refine TA.back (.inl (by kernel_rfl)) ?_
                                  refine TA.asL (L' := (SS 66 95 2 cTis v9 (hs160.set x161.toNat vq177_8_4) (y159.set x161.toNat yq177_8_2) :: OwnS 95 2 vq177_7_1 (([(x108, x60.2.2.2.1)] : List (Int × ByteArray)).map cTis) :: OwnS 90 6 v125 (y127.map cTibissi) :: OwnS 4 1 v113 (y128.map cB) :: Bx b101 95 [I x108, .string x60.2.2.2.1] :: Bx b90 45 [I x60.2.2.1, .string x60.2.2.2.1, .string x60.2.2.2.2.1, I x60.2.2.2.2.2] :: SN 41 4 nT41 v87 hs88 (y85) :: Bx b80 41 [I r74.1, .string r74.2.1, I r74.2.2.1, v78] :: OwnS 84 3 v76 (r73.map cTssi) :: Bx b62 90 [I x60.1, .bool x60.2.1, I x60.2.2.1, .string x60.2.2.2.1, .string x60.2.2.2.2.1, I x60.2.2.2.2.2] :: OwnS 90 6 v19 (y21.map cTibissi) :: L)) (listed' := #[true, true, true, true, true, true, true, true, true, true, true]) (by kernel_rfl) (by kernel_rfl) ?_
                                  cases hj180
                                  refine TA.nil (by kernel_rfl) fun a w e s => ?_
                                  exact ⟨(hs160.set x161.toNat vq177_8_4), e.sub (lk_of_allIn ⟨rfl, rfl, rfl, rfl, rfl, rfl, rfl, rfl, rfl, rfl, trivial⟩), s.mono fun _ s => (by exact Sat.by [0, 10, 10, 10, 10, 10, 10, 10, 10, 10] 10 1 (by kernel_rfl) s)⟩
                              · intro a w ⟨hs179, he, hs⟩
                                cases hj173
                                have e := he; have s := hs
                                exact ⟨hs179, e.sub (lk_of_allIn ⟨rfl, rfl, rfl, rfl, rfl, rfl, rfl, rfl, rfl, rfl, trivial⟩), s⟩
                            · replace hj173 := cond_f hc176 hj173
                              cases hj173
                              refine TC.skip fun a w e s => ?_
                              exact ⟨hs160, e.sub (lk_of_allIn ⟨rfl, rfl, rfl, rfl, rfl, rfl, rfl, rfl, rfl, rfl, trivial⟩), s⟩
                          · intro a w ⟨hs172, he, hs⟩
                            refine TC.use ?_ he hs
                            refine TC.region ?_
                            refine TO.s rfl rfl rfl (StepS.move rfl) ?_
                            refine TO.s rfl rfl rfl (StepS.ari rfl rfl rfl) ?_
                            refine TO.s rfl rfl rfl (StepS.assign rfl) ?_
                            cases hb169
                            refine TO.nil fun a w e s => ?_
                            exact ⟨hs172, e.sub (lk_of_allIn ⟨rfl, rfl, rfl, rfl, rfl, rfl, rfl, rfl, rfl, rfl, trivial⟩), s⟩
                        · replace hb169 := cond_f hc170 hb169
                          cases hb169
                          refine TC.exit rfl fun a w e s => ?_
                          exact ⟨hs160, e.sub (lk_of_allIn ⟨rfl, rfl, rfl, rfl, rfl, rfl, rfl, trivial⟩), s⟩
                      · exact fun a w e s => ⟨hs23, e.sub (lk_of_allIn ⟨rfl, rfl, rfl, rfl, rfl, rfl, rfl, rfl, rfl, rfl, trivial⟩), s⟩
                      · rintro y165 rfl a w ⟨hs166, he, hs⟩
                        dsimp only [Ctl.on] at hj59
                        cases hj59
                        have e := he; have s := hs
                        exact ⟨v76, v125, v87, hs88, hs166, e.sub (lk_of_allIn ⟨rfl, rfl, rfl, rfl, rfl, rfl, rfl, trivial⟩), s.mono fun _ s => (by exact Sat.by [9, 5, 2, 7] 4 6 (by kernel_rfl) s)⟩
                      · rintro r rfl
                        exact fun a w h => h.elim
                    · rintro r rfl
                      exact fun a w h => h.elim
      · intro a w ⟨v48, v51, v55, hs56, hs58, he, hs⟩
        refine TC.use ?_ he hs
        refine TC.region ?_
        refine TO.s rfl rfl rfl (StepS.ari rfl rfl rfl) ?_
        refine TO.s rfl rfl rfl (StepS.move rfl) ?_
        cases hb46
        refine TO.nil fun a w e s => ?_
        exact ⟨v48, v55, hs56, v51, hs58, e.sub (lk_of_allIn ⟨rfl, rfl, rfl, rfl, rfl, rfl, rfl, trivial⟩), s.mono fun _ s => (by exact Sat.by [3, 2, 3, 3] 4 0 (by kernel_rfl) s)⟩
    · replace hb46 := cond_f hc47 hb46
      cases hb46
      refine TC.exit rfl fun a w e s => ?_
      exact ⟨v15, hs16, hs23, e.sub (lk_of_allIn ⟨rfl, rfl, trivial⟩), s.mono fun _ s => (by exact Sat.by [3, 2] 2 2 (by kernel_rfl) s)⟩
  · exact fun a w e s => ⟨v5, .slice none 0 0, [], .slice none 0 0, hs10, e.sub (lk_of_allIn ⟨rfl, rfl, rfl, rfl, rfl, rfl, rfl, trivial⟩), s.mono fun _ s => (by replace s := Sat.nilS (e := 90) (sz := 6) (f := cTibissi) s; replace s := Sat.nilSN (e := 41) (sz := 4) (T := nT41) s; exact Sat.by [2, 2, 2, 3] 4 0 (by kernel_rfl) s)⟩
  · rintro ⟨y41, y42⟩ rfl a w ⟨v38, hs39, hs43, he, hs⟩
    dsimp only [Ctl.on] at hm
    refine TC.use ?_ he hs
    refine TC.k ?_
    refine TC.region ?_
    refine TO.s rfl rfl rfl (StepS.move rfl) ?_
    refine TO.s rfl rfl rfl (StepS.move rfl) ?_
    refine TO.s rfl rfl rfl (StepS.assign rfl) ?_
    refine TO.s rfl rfl rfl (StepS.assign rfl) ?_
    refine TO.code ?_
    cases hm
    refine TC.ret fun a w e s => ?_
    refine FRet.mk2 (P := Tryd.prog) (fn := Tryd.f23) (t := 2) (u := 3) e rfl rfl rfl ?_
    refine ⟨_, _, rfl, ⟨(v38), (hs39), (v9), (hs43), rfl, rfl⟩, ?_⟩
    refine s.mono fun _ s => ?_
    replace s := Sat.front 1 rfl s
    replace s := Sat.front 1 rfl s
    exact s
  · rintro r rfl
    exact fun a w h => h.elim

set_option maxRecDepth 100000 in
theorem C24 {B : World} {L : List HP} {a0 : List (Int × ByteArray)} {a1 : List (Int × ByteArray)} {h0 : Value} {h1 : Value} {r0 : Bool} (e0 : Ent L (Rd 2 h0 (a0.map cTis))) (e1 : Ent L (Rd 2 h1 (a1.map cTis))) (hm : F24 a0 a1 = some r0) {w : World} (st : St B L w) : Calls Tryd.prog 24 #[h0, h1] w (fun e w' => (e = .returned (.bool r0) ∧ St B (L) w')) := by
  refine calls_of (N := 26) (L := L) (args := [h0, h1]) Tryd.func24 rfl rfl rfl ?_ st
  dsimp only [F24] at hm
  refine TC.k ?_
  refine TC.region ?_
  refine TO.s rfl rfl rfl (StepS.assign rfl) ?_
  refine TO.code ?_
  refine TC.k ?_
  refine TC.k ?_
  refine TC.region ?_
  refine TO.s rfl rfl rfl (StepS.move rfl) ?_
  refine TO.s rfl rfl rfl (StepS.lenm rfl e0 ksliceB_66_95_2_true rfl) ?_
  refine TO.s rfl rfl rfl (StepS.move rfl) ?_
  refine TO.s rfl rfl rfl (StepS.lenm rfl e1 ksliceB_66_95_2_true rfl) ?_
  refine TO.s rfl rfl rfl (StepS.cmp rfl rfl rfl) ?_
  refine TO.code ?_
  refine TC.cond rfl (fun hc1 => ?_) (fun hc1 => ?_)
  · replace hm := cond_t hc1 hm
    refine TC.k ?_
    refine TC.region ?_
    refine TO.s rfl rfl rfl (StepS.assign rfl) ?_
    refine TO.code ?_
    cases hm
    refine TC.ret fun a w e s => ?_
    refine FRet.mk1 (P := Tryd.prog) (fn := Tryd.f24) (t := 4) e rfl rfl ?_
    exact ⟨rfl, s.mono fun _ => Sat.dropN 0⟩
  · replace hm := cond_f hc1 hm
    refine TC.skipk ?_
    refine TC.k ?_
    refine TC.k ?_
    refine TC.region ?_
    refine TO.s rfl rfl rfl (StepS.assign rfl) ?_
    refine TO.code ?_
    obtain ⟨o4, hw5, hm⟩ := bind_some hm
    refine TC.loop hw5 (fun x2 => fun a w => Mid 26 B [(0, h0), (1, h1), (5, I x2)] (L) a w) (fun _ => fun a w => Mid 26 B [] (L) a w) (fun r0 => FRet Tryd.prog Tryd.f24 (fun e w' => (e = .returned (.bool r0) ∧ St B (L) w'))) ?_ ?_ ?_ ?_
    · rintro x2 o4r hb6 a w ⟨he, hs⟩
      dsimp only [F24_L0] at hb6
      refine TC.use ?_ he hs
      refine TC.k ?_
      refine TC.k ?_
      refine TC.region ?_
      refine TO.s rfl rfl rfl (StepS.move rfl) ?_
      refine TO.s rfl rfl rfl (StepS.move rfl) ?_
      refine TO.s rfl rfl rfl (StepS.lenm rfl e0 ksliceB_66_95_2_true rfl) ?_
      refine TO.s rfl rfl rfl (StepS.cmp rfl rfl rfl) ?_
      refine TO.code ?_
      refine TC.cond rfl (fun hc7 => ?_) (fun hc7 => ?_)
      · replace hb6 := cond_t hc7 hb6
        refine TC.skipk ?_
        refine TC.k ?_
        refine TC.block ?_
        refine TC.k ?_
        refine TC.region_still kfollows_mixedOrders_true (by kernel_rfl) ?_
        refine TS.s rfl rfl rfl (StepS.move rfl) ?_
        refine TS.s rfl rfl rfl (StepS.move rfl) ?_
        obtain ⟨x8, hx9, hb6⟩ := bind_some hb6
        refine TS.s rfl rfl rfl (StepS.idx rfl rfl e0 ksliceB_66_95_2_true (idx_spec hx9).1 (idxm_lt hx9)) ?_
        refine TS.s rfl rfl rfl (StepS.ldE rfl e0 kaggB_95_2_true rfl (idxm hx9)) ?_
        refine TS.s rfl rfl rfl (StepS.move rfl) ?_
        refine TS.s rfl rfl rfl (StepS.move rfl) ?_
        obtain ⟨x10, hx11, hb6⟩ := bind_some hb6
        refine TS.s rfl rfl rfl (StepS.idx rfl rfl e1 ksliceB_66_95_2_true (idx_spec hx11).1 (idxm_lt hx11)) ?_
        refine TS.s rfl rfl rfl (StepS.ldE rfl e1 kaggB_95_2_true rfl (idxm hx11)) ?_
        refine TS.s rfl rfl rfl (StepS.neSt (r := ((x8.1 == x10.1) && ((x8.2 == x10.2) && true))) kunderlying_95_some_struct_fieldsOf_95 kstoodInHeld_95_false keqGuardType_depth_95_false rfl rfl (by kernel_rfl)) ?_
        refine TS.code ?_
        refine TC.cond rfl (fun hc12 => ?_) (fun hc12 => ?_)
        · replace hb6 := cond_t hc12 hb6
          refine TC.k ?_
          refine TC.region ?_
          refine TO.s rfl rfl rfl (StepS.assign rfl) ?_
          refine TO.code ?_
          cases hb6
          refine TC.ret fun a w e s => ?_
          refine FRet.mk1 (P := Tryd.prog) (fn := Tryd.f24) (t := 4) e rfl rfl ?_
          exact ⟨rfl, s.mono fun _ => Sat.dropN 0⟩
        · replace hb6 := cond_f hc12 hb6
          refine TC.skipk ?_
          refine TC.region ?_
          refine TO.s rfl rfl rfl (StepS.move rfl) ?_
          refine TO.s rfl rfl rfl (StepS.ari rfl rfl rfl) ?_
          refine TO.s rfl rfl rfl (StepS.assign rfl) ?_
          cases hb6
          refine TO.nil fun a w e s => ?_
          exact ⟨e.sub (lk_of_allIn ⟨rfl, rfl, rfl, trivial⟩), s⟩
      · replace hb6 := cond_f hc7 hb6
        cases hb6
        refine TC.exit rfl fun a w e s => ?_
        exact ⟨e.sub (lk_of_allIn trivial), s⟩
    · exact fun a w e s => ⟨e.sub (lk_of_allIn ⟨rfl, rfl, rfl, trivial⟩), s⟩
    · rintro _ rfl a w ⟨he, hs⟩
      dsimp only [Ctl.on] at hm
      refine TC.use ?_ he hs
      refine TC.k ?_
      refine TC.region ?_
      refine TO.s rfl rfl rfl (StepS.assign rfl) ?_
      refine TO.code ?_
      cases hm
      refine TC.ret fun a w e s => ?_
      refine FRet.mk1 (P := Tryd.prog) (fn := Tryd.f24) (t := 4) e rfl rfl ?_
      exact ⟨rfl, s.mono fun _ => Sat.dropN 0⟩
    · rintro r rfl
      cases hm
      exact fun a w h => h

set_option maxRecDepth 100000 in
theorem C8 {B : World} {L : List HP} {a0 : List (Int × Bool × Int × ByteArray × ByteArray × Int)} {h0 : Value} {r0 : Bool} (e0 : Ent L (Rd 6 h0 (a0.map cTibissi))) (hm : F8 a0 = some r0) {w : World} (st : St B L w) : Calls Tryd.prog 8 #[h0] w (fun e w' => (e = .returned (.bool r0) ∧ St B (L) w')) := by
  refine calls_of (N := 66) (L := L) (args := [h0]) Tryd.func8 rfl rfl rfl ?_ st
  dsimp only [F8] at hm
  refine TC.k ?_
  refine TC.region ?_
  refine TO.s rfl rfl rfl (StepS.assign rfl) ?_
  refine TO.code ?_
  refine TC.k ?_
  refine TC.region ?_
  refine TO.s rfl rfl rfl (StepS.move rfl) ?_
  obtain ⟨⟨r1, r2, r3⟩, hc4, hm⟩ := bind_some hm
  refine TO.callO kcallB_22_true rfl rfl rfl (fun _ st => C22 e0 hc4 st) ?_
  rintro _ _ ⟨v5, hs6, v8, hs9, rfl, rfl⟩
  refine TO.s rfl rfl rfl (StepS.move rfl) ?_
  refine TO.s rfl rfl rfl (StepS.extract rfl rfl) ?_
  refine TO.s rfl rfl rfl (StepS.extract rfl rfl) ?_
  refine TO.s rfl rfl rfl (StepS.extract rfl rfl) ?_
  refine TO.s rfl rfl rfl (StepS.assign rfl) ?_
  refine TO.s rfl rfl rfl (StepS.assign rfl) ?_
  refine TO.s rfl rfl rfl (StepS.assign rfl) ?_
  refine TO.code ?_
  refine TC.k ?_
  refine TC.k ?_
  refine TC.region ?_
  refine TO.s rfl rfl rfl (StepS.move rfl) ?_
  refine TO.s rfl rfl rfl (StepS.lenm rfl e0.tl.tl ksliceB_59_90_6_true rfl) ?_
  refine TO.s rfl rfl rfl (StepS.cmp rfl rfl rfl) ?_
  refine TO.code ?_
  refine TC.cond rfl (fun hc11 => ?_) (fun hc11 => ?_)
  · replace hm := cond_t hc11 hm
    refine TC.k ?_
    refine TC.region ?_
    refine TO.s rfl rfl rfl (StepS.move rfl) ?_
    refine TO.s rfl rfl rfl (StepS.cmp rfl rfl rfl) ?_
    refine TO.s rfl rfl rfl (StepS.move rfl) ?_
    refine TO.mid1 4 24 (.bool ((r3 == 1) && ((r1.length : Int) == 0))) ?_ ?_
    · refine bcase ((r3 == 1)) (fun hb12 => ?_) (fun hb12 => ?_)
      · refine TO.sw rfl rfl rfl hb12 rfl rfl (StepS.move rfl) ?_
        refine TO.sw rfl rfl rfl hb12 rfl rfl (StepS.lenN rfl (Ent.at 0 rfl) ksliceB_23_41_4_true rfl) ?_
        refine TO.sw rfl rfl rfl hb12 rfl rfl (StepS.cmp rfl rfl rfl) ?_
        refine TO.s rfl rfl rfl (StepS.pickT rfl hb12 rfl) ?_
        exact TO.up1 4 0 rfl rfl (by rw [hb12]; rfl) rfl
      · refine TO.skip rfl rfl rfl (skipF hb12) rfl rfl ?_
        refine TO.skip rfl rfl rfl (skipF hb12) rfl rfl ?_
        refine TO.skip rfl rfl rfl (skipF hb12) rfl rfl ?_
        refine TO.s rfl rfl rfl (StepS.pickF rfl hb12 rfl) ?_
        exact TO.up1 4 0 rfl rfl (by rw [hb12]; rfl) rfl
    refine TO.s rfl rfl rfl (StepS.move rfl) ?_
    refine TO.mid1 4 29 (.bool (((r3 == 1) && ((r1.length : Int) == 0)) && ((r2.length : Int) == 0))) ?_ ?_
    · refine bcase (((r3 == 1) && ((r1.length : Int) == 0))) (fun hb13 => ?_) (fun hb13 => ?_)
      · refine TO.sw rfl rfl rfl hb13 rfl rfl (StepS.move rfl) ?_
        refine TO.sw rfl rfl rfl hb13 rfl rfl (StepS.lenRR rfl (SS.rr (Ent.at 1 rfl)) ksliceB_60_66_1_true rfl) ?_
        refine TO.sw rfl rfl rfl hb13 rfl rfl (StepS.cmp rfl rfl rfl) ?_
        refine TO.s rfl rfl rfl (StepS.pickT rfl hb13 rfl) ?_
        exact TO.up1 4 0 rfl rfl (by rw [hb13]; rfl) rfl
      · refine TO.skip rfl rfl rfl (skipF hb13) rfl rfl ?_
        refine TO.skip rfl rfl rfl (skipF hb13) rfl rfl ?_
        refine TO.skip rfl rfl rfl (skipF hb13) rfl rfl ?_
        refine TO.s rfl rfl rfl (StepS.pickF rfl hb13 rfl) ?_
        exact TO.up1 4 0 rfl rfl (by rw [hb13]; rfl) rfl
    refine TO.s rfl rfl rfl (StepS.assign rfl) ?_
    refine TO.code ?_
    cases hm
    refine TC.ret fun a w e s => ?_
    refine FRet.mk1 (P := Tryd.prog) (fn := Tryd.f8) (t := 2) e rfl rfl ?_
    exact ⟨rfl, s.mono fun _ => Sat.dropN 2⟩
  · replace hm := cond_f hc11 hm
    refine TC.skipk ?_
    refine TC.k ?_
    refine TC.region ?_
    refine TO.s rfl rfl rfl (StepS.move rfl) ?_
    obtain ⟨⟨r14, r15⟩, hc16, hm⟩ := bind_some hm
    refine TO.callO kcallB_23_true rfl rfl rfl (fun _ st => C23 e0.tl.tl hc16 st) ?_
    rintro _ _ ⟨v17, hs18, v20, hs21, rfl, rfl⟩
    refine TO.s rfl rfl rfl (StepS.move rfl) ?_
    refine TO.s rfl rfl rfl (StepS.extract rfl rfl) ?_
    refine TO.s rfl rfl rfl (StepS.extract rfl rfl) ?_
    refine TO.s rfl rfl rfl (StepS.assign rfl) ?_
    refine TO.s rfl rfl rfl (StepS.assign rfl) ?_
    refine TO.code ?_
    refine TC.k ?_
    refine TC.k ?_
    refine TC.region ?_
    refine TO.s rfl rfl rfl (StepS.move rfl) ?_
    refine TO.s rfl rfl rfl (StepS.cmp rfl rfl rfl) ?_
    refine TO.s rfl rfl rfl (StepS.move rfl) ?_
    obtain ⟨b24, hj25, hm⟩ := bind_some hm
    refine TO.mid1 5 42 (.bool b24) ?_ ?_
    · refine bcase ((r3 != 0)) (fun hb23 => ?_) (fun hb23 => ?_)
      · replace hj25 := cond_t hb23 hj25
        cases hj25
        refine TO.skip rfl rfl rfl (skipT hb23) rfl rfl ?_
        refine TO.skip rfl rfl rfl (skipT hb23) rfl rfl ?_
        refine TO.skip rfl rfl rfl (skipT hb23) rfl rfl ?_
        refine TO.skip rfl rfl rfl (skipT hb23) rfl rfl ?_
        refine TO.s rfl rfl rfl (StepS.pickT rfl hb23 rfl) ?_
        exact TO.up1 5 0 rfl rfl rfl rfl
      · replace hj25 := cond_f hb23 hj25
        refine TO.sw rfl rfl rfl hb23 rfl rfl (StepS.move rfl) ?_
        refine TO.sw rfl rfl rfl hb23 rfl rfl (StepS.move rfl) ?_
        obtain ⟨r26, hc27, hj25⟩ := bind_some hj25
        refine TO.qw rfl rfl rfl hb23 rfl rfl (StepQ.call kcallB_13_true rfl rfl (fun _ st => C13 (Ent.at 2 rfl) (Ent.at 0 rfl) hc27 st)) ?_
        refine TO.sw rfl rfl rfl hb23 rfl rfl (StepS.not rfl) ?_
        cases hj25
        refine TO.s rfl rfl rfl (StepS.pickF rfl hb23 rfl) ?_
        exact TO.up1 5 0 rfl rfl rfl rfl
    refine TO.s rfl rfl rfl (StepS.move rfl) ?_
    refine TO.mid1 6 49 (.bool (b24 || ((r2.length : Int) != (r15.length : Int)))) ?_ ?_
    · refine bcase (b24) (fun hb28 => ?_) (fun hb28 => ?_)
      · refine TO.skip rfl rfl rfl (skipT hb28) rfl rfl ?_
        refine TO.skip rfl rfl rfl (skipT hb28) rfl rfl ?_
        refine TO.skip rfl rfl rfl (skipT hb28) rfl rfl ?_
        refine TO.skip rfl rfl rfl (skipT hb28) rfl rfl ?_
        refine TO.skip rfl rfl rfl (skipT hb28) rfl rfl ?_
        refine TO.s rfl rfl rfl (StepS.pickT rfl hb28 rfl) ?_
        exact TO.up1 6 0 rfl rfl (by rw [hb28]; rfl) rfl
      · refine TO.sw rfl rfl rfl hb28 rfl rfl (StepS.move rfl) ?_
        refine TO.sw rfl rfl rfl hb28 rfl rfl (StepS.lenRR rfl (SS.rr (Ent.at 3 rfl)) ksliceB_60_66_1_true rfl) ?_
        refine TO.sw rfl rfl rfl hb28 rfl rfl (StepS.move rfl) ?_
        refine TO.sw rfl rfl rfl hb28 rfl rfl (StepS.lenRR rfl (SS.rr (Ent.at 1 rfl)) ksliceB_60_66_1_true rfl) ?_
        refine TO.sw rfl rfl rfl hb28 rfl rfl (StepS.cmp rfl rfl rfl) ?_
        refine TO.s rfl rfl rfl (StepS.pickF rfl hb28 rfl) ?_
        exact TO.up1 6 0 rfl rfl (by rw [hb28]; rfl) rfl
    refine TO.code ?_
    refine TC.cond rfl (fun hc29 => ?_) (fun hc29 => ?_)
    · replace hm := cond_t hc29 hm
      refine TC.k ?_
      refine TC.region ?_
      refine TO.s rfl rfl rfl (StepS.assign rfl) ?_
      refine TO.code ?_
      cases hm
      refine TC.ret fun a w e s => ?_
      refine FRet.mk1 (P := Tryd.prog) (fn := Tryd.f8) (t := 2) e rfl rfl ?_
      exact ⟨rfl, s.mono fun _ => Sat.dropN 4⟩
    · replace hm := cond_f hc29 hm
      refine TC.skipk ?_
      refine TC.k ?_
      refine TC.k ?_
      refine TC.region ?_
      refine TO.s rfl rfl rfl (StepS.assign rfl) ?_
      refine TO.code ?_
      obtain ⟨o32, hw33, hm⟩ := bind_some hm
      refine TC.loop hw33 (fun x30 => fun a w => Mid 66 B [(4, v8), (7, v20), (8, I x30)] (SN 41 4 nT41 v17 hs18 (r14) :: SS 66 95 2 cTis v20 hs21 (r15) :: SN 41 4 nT41 v5 hs6 (r1) :: SS 66 95 2 cTis v8 hs9 (r2) :: L) a w) (fun _ => fun a w => Mid 66 B [] (SN 41 4 nT41 v17 hs18 (r14) :: SS 66 95 2 cTis v20 hs21 (r15) :: SN 41 4 nT41 v5 hs6 (r1) :: SS 66 95 2 cTis v8 hs9 (r2) :: L) a w) (fun r0 => FRet Tryd.prog Tryd.f8 (fun e w' => (e = .returned (.bool r0) ∧ St B (L) w'))) ?_ ?_ ?_ ?_
      · rintro x30 o32r hb34 a w ⟨he, hs⟩
        dsimp only [F8_L0] at hb34
        refine TC.use ?_ he hs
        refine TC.k ?_
        refine TC.k ?_
        refine TC.region ?_
        refine TO.s rfl rfl rfl (StepS.move rfl) ?_
        refine TO.s rfl rfl rfl (StepS.move rfl) ?_
        refine TO.s rfl rfl rfl (StepS.lenRR rfl (SS.rr (Ent.at 1 rfl)) ksliceB_60_66_1_true rfl) ?_
        refine TO.s rfl rfl rfl (StepS.cmp rfl rfl rfl) ?_
        refine TO.code ?_
        refine TC.cond rfl (fun hc35 => ?_) (fun hc35 => ?_)
        · replace hb34 := cond_t hc35 hb34
          refine TC.skipk ?_
          refine TC.k ?_
          refine TC.block ?_
          refine TC.k ?_
          refine TC.region_quiet kfollows_mixedOrders_true (by kernel_rfl) ?_
          refine TQ.s rfl rfl rfl (StepS.move rfl).q ?_
          refine TQ.s rfl rfl rfl (StepS.move rfl).q ?_
          obtain ⟨x36, hx37, hb34⟩ := bind_some hb34
          refine TQ.s rfl rfl rfl (StepS.idxRR rfl rfl (SS.rr (Ent.at 3 rfl)) ksliceB_60_66_1_true hx37).q ?_
          refine TQ.s rfl rfl rfl (StepS.ldRR rfl (SS.rr (Ent.at 3 rfl)) kscalB_66_true hx37).q ?_
          refine TQ.s rfl rfl rfl (StepS.move rfl).q ?_
          refine TQ.s rfl rfl rfl (StepS.move rfl).q ?_
          obtain ⟨x39, hx40, hb34⟩ := bind_some hb34
          refine TQ.s rfl rfl rfl (StepS.idxRR rfl rfl (SS.rr (Ent.at 1 rfl)) ksliceB_60_66_1_true hx40).q ?_
          refine TQ.s rfl rfl rfl (StepS.ldRR rfl (SS.rr (Ent.at 1 rfl)) kscalB_66_true hx40).q ?_
          obtain ⟨r42, hc43, hb34⟩ := bind_some hb34
          refine TQ.s rfl rfl rfl (StepQ.call kcallB_24_true rfl rfl (fun _ st => C24 (RR.row (SS.rr (Ent.at 3 rfl)) hx37) (RR.row (SS.rr (Ent.at 1 rfl)) hx40) hc43 st)) ?_
          refine TQ.s rfl rfl rfl (StepS.not rfl).q ?_
          refine TQ.code ?_
          refine TC.cond rfl (fun hc44 => ?_) (fun hc44 => ?_)
          · replace hb34 := cond_t hc44 hb34
            refine TC.k ?_
            refine TC.region ?_
            refine TO.s rfl rfl rfl (StepS.assign rfl) ?_
            refine TO.code ?_
            cases hb34
            refine TC.ret fun a w e s => ?_
            refine FRet.mk1 (P := Tryd.prog) (fn := Tryd.f8) (t := 2) e rfl rfl ?_
            exact ⟨rfl, s.mono fun _ => Sat.dropN 4⟩
          · replace hb34 := cond_f hc44 hb34
            refine TC.skipk ?_
            refine TC.region ?_
            refine TO.s rfl rfl rfl (StepS.move rfl) ?_
            refine TO.s rfl rfl rfl (StepS.ari rfl rfl rfl) ?_
            refine TO.s rfl rfl rfl (StepS.assign rfl) ?_
            cases hb34
            refine TO.nil fun a w e s => ?_
            exact ⟨e.sub (lk_of_allIn ⟨rfl, rfl, rfl, trivial⟩), s⟩
        · replace hb34 := cond_f hc35 hb34
          cases hb34
          refine TC.exit rfl fun a w e s => ?_
          exact ⟨e.sub (lk_of_allIn trivial), s⟩
      · exact fun a w e s => ⟨e.sub (lk_of_allIn ⟨rfl, rfl, rfl, trivial⟩), s⟩
      · rintro _ rfl a w ⟨he, hs⟩
        dsimp only [Ctl.on] at hm
        refine TC.use ?_ he hs
        refine TC.k ?_
        refine TC.region ?_
        refine TO.s rfl rfl rfl (StepS.assign rfl) ?_
        refine TO.code ?_
        cases hm
        refine TC.ret fun a w e s => ?_
        refine FRet.mk1 (P := Tryd.prog) (fn := Tryd.f8) (t := 2) e rfl rfl ?_
        exact ⟨rfl, s.mono fun _ => Sat.dropN 4⟩
      · rintro r rfl
        cases hm
        exact fun a w h => h
end Go.Proofs.YtadfgohglcglcaaDoor
