/-
  The walks: each Go function returns what its model says. Written by a program (gen.py).
-/
import Derived.Test.YtadfgohglcglcaaDoorProg
import Derived.KernelRfl
import Derived.Test.YtadfgohglcglcaaDoorSW
import Derived.Test.YtadfgohglcglcaaDoorNW
import Derived.Test.YtadfgohglcglcaaDoorST
import Derived.Test.YtadfgohglcglcaaDoorKM
namespace Go.Proofs.YtadfgohglcglcaaDoor
open Go Go.Bk
set_option linter.unusedVariables false
set_option linter.unnecessarySimpa false
theorem kmapGB_101_9_100_true : mapGB Tryd.prog 101 9 100 = true := by kernel_rfl
theorem kcallB_55_true : callB Tryd.prog 55 = true := by kernel_rfl
theorem kcallB_49_true : callB Tryd.prog 49 = true := by kernel_rfl
theorem kfollows_mixedOrders_true : Tryd.prog.follows .mixedOrders = true := by kernel_rfl
theorem kfieldB_103_0_0_true : fieldB Tryd.prog 103 0 0 = true := by kernel_rfl
theorem kscalB_101_true : scalB Tryd.prog 101 = true := by kernel_rfl
theorem kfieldB_45_1_1_true : fieldB Tryd.prog 45 1 1 = true := by kernel_rfl
theorem kscalB_9_true : scalB Tryd.prog 9 = true := by kernel_rfl
theorem kinfo_100_bind_zero_some_agg_string_ByteArray_empty_I_0 : (Tryd.prog.info? 100).bind (·.zero) = some (.agg #[.string ByteArray.empty, I 0]) := by kernel_rfl
theorem ksizeB_100_2_true : sizeB Tryd.prog 100 2 = true := by kernel_rfl
theorem kcallB_42_true : callB Tryd.prog 42 = true := by kernel_rfl
theorem kfieldB_45_2_2_true : fieldB Tryd.prog 45 2 2 = true := by kernel_rfl
theorem kelemB_39_9_1_16_true : elemB Tryd.prog 39 9 1 16 = true := by kernel_rfl
theorem kinfo_9_bind_zero_some_string_ByteArray_empty : (Tryd.prog.info? 9).bind (·.zero) = some (.string ByteArray.empty) := by kernel_rfl
theorem kcallB_48_true : callB Tryd.prog 48 = true := by kernel_rfl
theorem kinfo_41_bind_zero_some_agg_I_0_string_ByteArray_empty_I_0_slice_none_0_0 : (Tryd.prog.info? 41).bind (·.zero) = some (.agg #[I 0, .string ByteArray.empty, I 0, .slice none 0 0]) := by kernel_rfl
theorem kfieldB_45_0_0_true : fieldB Tryd.prog 45 0 0 = true := by kernel_rfl
theorem kscalB_3_true : scalB Tryd.prog 3 = true := by kernel_rfl
theorem ksizeB_41_4_true : sizeB Tryd.prog 41 4 = true := by kernel_rfl
theorem kaggB_41_4_true : aggB Tryd.prog 41 4 = true := by kernel_rfl
theorem kcallB_35_true : callB Tryd.prog 35 = true := by kernel_rfl
theorem kaggB_45_4_true : aggB Tryd.prog 45 4 = true := by kernel_rfl
theorem kcallB_36_true : callB Tryd.prog 36 = true := by kernel_rfl
theorem kfieldB_100_0_0_true : fieldB Tryd.prog 100 0 0 = true := by kernel_rfl
theorem kfieldB_100_1_1_true : fieldB Tryd.prog 100 1 1 = true := by kernel_rfl
theorem kcallB_37_true : callB Tryd.prog 37 = true := by kernel_rfl
theorem kfieldB_45_3_3_true : fieldB Tryd.prog 45 3 3 = true := by kernel_rfl
theorem ksliceB_39_9_1_true : sliceB Tryd.prog 39 9 1 = true := by kernel_rfl
theorem ksliceB_34_45_4_true : sliceB Tryd.prog 34 45 4 = true := by kernel_rfl
theorem kcallB_26_true : callB Tryd.prog 26 = true := by kernel_rfl
theorem kinfo_45_bind_zero_some_agg_I_0_string_ByteArray_empty_string_ByteArray_empty_I_0 : (Tryd.prog.info? 45).bind (·.zero) = some (.agg #[I 0, .string ByteArray.empty, .string ByteArray.empty, I 0]) := by kernel_rfl
theorem ksizeB_45_4_true : sizeB Tryd.prog 45 4 = true := by kernel_rfl
theorem kcallB_29_true : callB Tryd.prog 29 = true := by kernel_rfl
theorem kelemB_23_41_4_56_true : elemB Tryd.prog 23 41 4 56 = true := by kernel_rfl
theorem kelemB_51_84_3_40_true : elemB Tryd.prog 51 84 3 40 = true := by kernel_rfl
theorem kinfo_84_bind_zero_some_agg_string_ByteArray_empty_string_ByteArray_empty_I_0 : (Tryd.prog.info? 84).bind (·.zero) = some (.agg #[.string ByteArray.empty, .string ByteArray.empty, I 0]) := by kernel_rfl
theorem kscalB_51_true : scalB Tryd.prog 51 = true := by kernel_rfl
theorem ksliceB_51_84_3_true : sliceB Tryd.prog 51 84 3 = true := by kernel_rfl
theorem kaggB_84_3_true : aggB Tryd.prog 84 3 = true := by kernel_rfl
theorem ksizeB_84_3_true : sizeB Tryd.prog 84 3 = true := by kernel_rfl
theorem kfieldB_84_0_0_true : fieldB Tryd.prog 84 0 0 = true := by kernel_rfl
theorem kcallB_32_true : callB Tryd.prog 32 = true := by kernel_rfl
theorem ksizeB_9_1_true : sizeB Tryd.prog 9 1 = true := by kernel_rfl
theorem kcallB_38_true : callB Tryd.prog 38 = true := by kernel_rfl
theorem kcallB_39_true : callB Tryd.prog 39 = true := by kernel_rfl
theorem kcallB_40_true : callB Tryd.prog 40 = true := by kernel_rfl
theorem kfieldB_84_1_1_true : fieldB Tryd.prog 84 1 1 = true := by kernel_rfl
theorem kfieldB_84_2_2_true : fieldB Tryd.prog 84 2 2 = true := by kernel_rfl
theorem kcallB_41_true : callB Tryd.prog 41 = true := by kernel_rfl
theorem ksizeB_3_1_true : sizeB Tryd.prog 3 1 = true := by kernel_rfl
theorem kcallB_30_true : callB Tryd.prog 30 = true := by kernel_rfl
theorem kfieldB_41_0_0_true : fieldB Tryd.prog 41 0 0 = true := by kernel_rfl
theorem kscalB_27_true : scalB Tryd.prog 27 = true := by kernel_rfl
theorem kfieldB_41_1_1_true : fieldB Tryd.prog 41 1 1 = true := by kernel_rfl
theorem kfieldB_41_2_2_true : fieldB Tryd.prog 41 2 2 = true := by kernel_rfl
theorem kfieldB_41_3_3_true : fieldB Tryd.prog 41 3 3 = true := by kernel_rfl
theorem kscalB_39_true : scalB Tryd.prog 39 = true := by kernel_rfl
theorem ksliceB_23_41_4_true : sliceB Tryd.prog 23 41 4 = true := by kernel_rfl
theorem kcallB_16_true : callB Tryd.prog 16 = true := by kernel_rfl
theorem kcallB_15_true : callB Tryd.prog 15 = true := by kernel_rfl
theorem kcallB_20_true : callB Tryd.prog 20 = true := by kernel_rfl
theorem kcallB_19_true : callB Tryd.prog 19 = true := by kernel_rfl
theorem kcallB_13_true : callB Tryd.prog 13 = true := by kernel_rfl

set_option maxRecDepth 100000 in
theorem C26 {B : World} {L : List HP} {r0 : ByteArray → Option (ByteArray × Int)} (hm : F26 = some r0) {w : World} (st : St B L w) : Calls Tryd.prog 26 #[] w (fun e w' => ∃ v M, e = .returned v ∧ (∃ (qb2 : Nat) (qr1 : Nat), v = .pointer (some ⟨qb2, 0, none⟩) ∧ M = (Bx qb2 103 [.map (some qr1)] :: MF (fun k : ByteArray => .string k) (fun x : ByteArray × Int => .agg (cTsi x).toArray) qr1 (r0) :: L)) ∧ St B M w') := by
  refine calls_of (N := 6) (L := L) (args := []) Tryd.func26 rfl rfl rfl ?_ st
  dsimp only [F26] at hm
  refine TC.k ?_
  refine TC.region ?_
  refine TO.s rfl rfl rfl (StepS.assign rfl) ?_
  refine TO.code ?_
  refine TC.k ?_
  refine TC.region ?_
  refine TO.mkMF (kf := (fun k : ByteArray => .string k)) (vf := (fun x : ByteArray × Int => .agg (cTsi x).toArray)) rfl fun r2 => ?_
  refine TO.s rfl rfl rfl (StepS.build (cs := [.string ByteArray.empty, I 0]) rfl (by kernel_rfl)) ?_
  refine TO.insF (k := (ByteArray.mk #[47])) (v := (ByteArray.empty, 0)) 0 kmapGB_101_9_100_true (KeyOk.str kunderlying_9_some_string) rfl rfl rfl rfl ?_
  refine TO.s rfl rfl rfl (StepS.move rfl) ?_
  refine TO.s rfl rfl rfl (StepS.build (cs := [.map (some r2)]) rfl (by kernel_rfl)) ?_
  refine TO.box (cs := [.map (some r2)]) rfl rfl rfl fun b4 => ?_
  refine TO.s rfl rfl rfl (StepS.assign rfl) ?_
  refine TO.code ?_
  cases hm
  refine TC.ret fun a w e s => ?_
  refine FRet.mk1 (P := Tryd.prog) (fn := Tryd.f26) (t := 0) e rfl rfl ?_
  refine ⟨_, _, rfl, ⟨b4, r2, rfl, rfl⟩, ?_⟩
  refine s.mono fun _ s => ?_
  replace s := Sat.front 1 rfl s
  replace s := Sat.front 1 rfl s
  exact s

set_option maxRecDepth 100000 in
theorem C55 {B : World} {L : List HP} {a0 : ByteArray} {a1 : Int} {r0 : Int} (hm : F55 a0 a1 = some r0) {w : World} (st : St B L w) : Calls Tryd.prog 55 #[.string a0, .int .u8 a1] w (fun e w' => (e = .returned (I r0) ∧ St B (L) w')) := by
  refine calls_of (N := 19) (L := L) (args := [.string a0, .int .u8 a1]) Tryd.func55 rfl rfl rfl ?_ st
  dsimp only [F55] at hm
  refine TC.k ?_
  refine TC.region ?_
  refine TO.s rfl rfl rfl (StepS.assign rfl) ?_
  refine TO.code ?_
  refine TC.k ?_
  refine TC.k ?_
  refine TC.region ?_
  refine TO.s rfl rfl rfl (StepS.move rfl) ?_
  refine TO.s rfl rfl rfl (StepS.lenS kunderlying_9_some_string rfl rfl) ?_
  refine TO.s rfl rfl rfl (StepS.ari rfl rfl rfl) ?_
  refine TO.s rfl rfl rfl (StepS.assign rfl) ?_
  refine TO.code ?_
  obtain ⟨o3, hw4, hm⟩ := bind_some hm
  refine TC.loop hw4 (fun x1 => fun a w => Mid 19 B [(0, .string a0), (1, .int .u8 a1), (5, I x1)] (L) a w) (fun _ => fun a w => Mid 19 B [] (L) a w) (fun r0 => FRet Tryd.prog Tryd.f55 (fun e w' => (e = .returned (I r0) ∧ St B (L) w'))) ?_ ?_ ?_ ?_
  · rintro x1 o3r hb5 a w ⟨he, hs⟩
    dsimp only [F55_L0] at hb5
    refine TC.use ?_ he hs
    refine TC.k ?_
    refine TC.k ?_
    refine TC.region ?_
    refine TO.s rfl rfl rfl (StepS.move rfl) ?_
    refine TO.s rfl rfl rfl (StepS.cmp rfl rfl rfl) ?_
    refine TO.code ?_
    refine TC.cond rfl (fun hc6 => ?_) (fun hc6 => ?_)
    · replace hb5 := cond_t hc6 hb5
      refine TC.skipk ?_
      refine TC.k ?_
      refine TC.block ?_
      refine TC.k ?_
      refine TC.region ?_
      refine TO.s rfl rfl rfl (StepS.move rfl) ?_
      refine TO.s rfl rfl rfl (StepS.move rfl) ?_
      obtain ⟨x7, hx8, hb5⟩ := bind_some hb5
      refine TO.s rfl rfl rfl (StepS.idxS kunderlying_9_some_string rfl rfl hx8) ?_
      refine TO.s rfl rfl rfl (StepS.move rfl) ?_
      refine TO.s rfl rfl rfl (StepS.cmp rfl rfl rfl) ?_
      refine TO.code ?_
      refine TC.cond rfl (fun hc9 => ?_) (fun hc9 => ?_)
      · replace hb5 := cond_t hc9 hb5
        refine TC.k ?_
        refine TC.region ?_
        refine TO.s rfl rfl rfl (StepS.move rfl) ?_
        refine TO.s rfl rfl rfl (StepS.assign rfl) ?_
        refine TO.code ?_
        cases hb5
        refine TC.ret fun a w e s => ?_
        refine FRet.mk1 (P := Tryd.prog) (fn := Tryd.f55) (t := 4) e rfl rfl ?_
        exact ⟨rfl, s.mono fun _ => Sat.dropN 0⟩
      · replace hb5 := cond_f hc9 hb5
        refine TC.skipk ?_
        refine TC.region ?_
        refine TO.s rfl rfl rfl (StepS.move rfl) ?_
        refine TO.s rfl rfl rfl (StepS.ari rfl rfl rfl) ?_
        refine TO.s rfl rfl rfl (StepS.assign rfl) ?_
        cases hb5
        refine TO.nil fun a w e s => ?_
        exact ⟨e.sub (lk_of_allIn ⟨rfl, rfl, rfl, trivial⟩), s⟩
    · replace hb5 := cond_f hc6 hb5
      cases hb5
      refine TC.exit rfl fun a w e s => ?_
      exact ⟨e.sub (lk_of_allIn trivial), s⟩
  · exact fun a w e s => ⟨e.sub (lk_of_allIn ⟨rfl, rfl, rfl, trivial⟩), s⟩
  · rintro _ rfl a w ⟨he, hs⟩
    dsimp only [Ctl.on] at hm
    refine TC.use ?_ he hs
    refine TC.k ?_
    refine TC.region ?_
    refine TO.s rfl rfl rfl (StepS.assign rfl) ?_
    refine TO.code ?_
    cases hm
    refine TC.ret fun a w e s => ?_
    refine FRet.mk1 (P := Tryd.prog) (fn := Tryd.f55) (t := 4) e rfl rfl ?_
    exact ⟨rfl, s.mono fun _ => Sat.dropN 0⟩
  · rintro r rfl
    cases hm
    exact fun a w h => h

set_option maxRecDepth 100000 in
theorem C49 {B : World} {L : List HP} {a0 : ByteArray} {a1 : Int} {r0 : Int} (hm : F49 a0 a1 = some r0) {w : World} (st : St B L w) : Calls Tryd.prog 49 #[.string a0, .int .u8 a1] w (fun e w' => (e = .returned (I r0) ∧ St B (L) w')) := by
  refine calls_of (N := 8) (L := L) (args := [.string a0, .int .u8 a1]) Tryd.func49 rfl rfl rfl ?_ st
  dsimp only [F49] at hm
  refine TC.k ?_
  refine TC.region ?_
  refine TO.s rfl rfl rfl (StepS.assign rfl) ?_
  refine TO.code ?_
  refine TC.k ?_
  refine TC.region ?_
  refine TO.s rfl rfl rfl (StepS.move rfl) ?_
  refine TO.s rfl rfl rfl (StepS.move rfl) ?_
  obtain ⟨r1, hc2, hm⟩ := bind_some hm
  refine TO.q rfl rfl rfl (StepQ.call kcallB_55_true rfl rfl (fun _ st => C55  hc2 st)) ?_
  refine TO.s rfl rfl rfl (StepS.assign rfl) ?_
  refine TO.code ?_
  cases hm
  refine TC.ret fun a w e s => ?_
  refine FRet.mk1 (P := Tryd.prog) (fn := Tryd.f49) (t := 4) e rfl rfl ?_
  exact ⟨rfl, s.mono fun _ => Sat.dropN 0⟩

set_option maxRecDepth 100000 in
theorem C42 {B : World} {L : List HP} {a0 : ByteArray} {r0 : ByteArray} {r1 : ByteArray} (hm : F42 a0 = some (r0, r1)) {w : World} (st : St B L w) : Calls Tryd.prog 42 #[.string a0] w (fun e w' => (e = .returned (.tuple #[.string r0, .string r1]) ∧ St B (L) w')) := by
  refine calls_of (N := 15) (L := L) (args := [.string a0]) Tryd.func42 rfl rfl rfl ?_ st
  dsimp only [F42] at hm
  refine TC.k ?_
  refine TC.region ?_
  refine TO.s rfl rfl rfl (StepS.assign rfl) ?_
  refine TO.s rfl rfl rfl (StepS.assign rfl) ?_
  refine TO.code ?_
  refine TC.k ?_
  refine TC.region ?_
  refine TO.s rfl rfl rfl (StepS.move rfl) ?_
  obtain ⟨r1, hc2, hm⟩ := bind_some hm
  refine TO.q rfl rfl rfl (StepQ.call kcallB_49_true rfl rfl (fun _ st => C49  hc2 st)) ?_
  refine TO.s rfl rfl rfl (StepS.assign rfl) ?_
  refine TO.code ?_
  refine TC.k ?_
  refine TC.region_still kfollows_mixedOrders_true (by kernel_rfl) ?_
  refine TS.s rfl rfl rfl (StepS.move rfl) ?_
  refine TS.s rfl rfl rfl (StepS.move rfl) ?_
  refine TS.s rfl rfl rfl (StepS.max2 rfl rfl) ?_
  obtain ⟨x3, hx4, hm⟩ := bind_some hm
  refine TS.s rfl rfl rfl (StepS.slcS kunderlying_9_some_string rfl rfl rfl hx4) ?_
  refine TS.s rfl rfl rfl (StepS.move rfl) ?_
  refine TS.s rfl rfl rfl (StepS.move rfl) ?_
  refine TS.s rfl rfl rfl (StepS.ari rfl rfl rfl) ?_
  obtain ⟨x5, hx6, hm⟩ := bind_some hm
  refine TS.s rfl rfl rfl (StepS.slcS kunderlying_9_some_string rfl rfl rfl hx6) ?_
  refine TS.s rfl rfl rfl (StepS.assign rfl) ?_
  refine TS.s rfl rfl rfl (StepS.assign rfl) ?_
  refine TS.code ?_
  cases hm
  refine TC.ret fun a w e s => ?_
  refine FRet.mk2 (P := Tryd.prog) (fn := Tryd.f42) (t := 2) (u := 3) e rfl rfl rfl ?_
  exact ⟨rfl, s.mono fun _ => Sat.dropN 0⟩

set_option maxRecDepth 100000 in
theorem C36 {B : World} {L : List HP} {a0 : ByteArray → Option (ByteArray × Int)} {a1 : Int × ByteArray × ByteArray × Int} {b0_ : Nat} {h0_1 : Nat} {r0 : Int} {s0 : ByteArray → Option (ByteArray × Int)} (hm : F36 a0 a1 = some (r0, s0)) {w : World} (st : St B (Bx b0_ 103 [.map (some h0_1)] :: MF (fun k : ByteArray => .string k) (fun x : ByteArray × Int => .agg (cTsi x).toArray) h0_1 (a0) :: L) w) : Calls Tryd.prog 36 #[.pointer (some ⟨b0_, 0, none⟩), .agg (cTissi a1).toArray] w (fun e w' => ∃ v M, e = .returned v ∧ (∃ (qr1 : Nat), v = I r0 ∧ M = (Bx b0_ 103 [.map (some qr1)] :: MF (fun k : ByteArray => .string k) (fun x : ByteArray × Int => .agg (cTsi x).toArray) qr1 (s0) :: L)) ∧ St B M w') := by
  refine calls_of (N := 54) (L := (Bx b0_ 103 [.map (some h0_1)] :: MF (fun k : ByteArray => .string k) (fun x : ByteArray × Int => .agg (cTsi x).toArray) h0_1 (a0) :: L)) (args := [.pointer (some ⟨b0_, 0, none⟩), .agg (cTissi a1).toArray]) Tryd.func36 rfl rfl rfl ?_ st
  dsimp only [F36] at hm
  refine TC.k ?_
  refine TC.region ?_
  refine TO.box (cs := [I a1.1, .string a1.2.1, .string a1.2.2.1, I a1.2.2.2]) rfl rfl rfl fun b3 => ?_
  refine TO.s rfl rfl rfl (StepS.assign rfl) ?_
  refine TO.code ?_
  refine TC.k ?_
  refine TC.k ?_
  refine TC.region_any (Bx b3 45 [I a1.1, .string a1.2.1, .string a1.2.2.1, I a1.2.2.2] :: Bx b0_ 103 [.map (some h0_1)] :: MF (fun k : ByteArray => .string k) (fun x : ByteArray × Int => .agg (cTsi x).toArray) h0_1 (a0) :: L) 11 13 kfollows_mixedOrders_true rfl ?_
  refine TA.takeW 0 rfl rfl rfl rfl (StepS.move rfl) (by kernel_rfl) (by kernel_rfl) (by kernel_rfl) rfl (.inr (fun _ s => s)) ?_
  refine TA.takeW 1 rfl rfl rfl rfl (StepS.nilc rfl) (by kernel_rfl) (by kernel_rfl) (by kernel_rfl) rfl (.inr (fun _ s => s)) ?_
  refine TA.takeW 2 rfl rfl rfl rfl (StepS.fld rfl kfieldB_103_0_0_true) (by kernel_rfl) (by kernel_rfl) (by kernel_rfl) rfl (.inr (fun _ s => s)) ?_
  refine TA.take 3 rfl rfl rfl rfl (StepS.ldB rfl (Ent.at 1 rfl) kscalB_101_true rfl) (by kernel_rfl) (by kernel_rfl) (by kernel_rfl) (by kernel_rfl) (by kernel_rfl) (fun _ s => s) ?_
  refine TA.takeW 4 rfl rfl rfl rfl (StepS.fld rfl kfieldB_45_1_1_true) (by kernel_rfl) (by kernel_rfl) (by kernel_rfl) rfl (.inr (fun _ s => s)) ?_
  refine TA.take 5 rfl rfl rfl rfl (StepS.ldB rfl (Ent.at 0 rfl) kscalB_9_true rfl) (by kernel_rfl) (by kernel_rfl) (by kernel_rfl) (by kernel_rfl) (by kernel_rfl) (fun _ s => s) ?_
  refine TA.take 6 rfl rfl rfl rfl (StepS.lookF2 (k := a1.2.1) (z := (ByteArray.empty, 0)) kmapGB_101_9_100_true (KeyOk.str kunderlying_9_some_string) kinfo_100_bind_zero_some_agg_string_ByteArray_empty_I_0 rfl (Ent.at 2 rfl) rfl) (by kernel_rfl) (by kernel_rfl) (by kernel_rfl) (by kernel_rfl) (by kernel_rfl) (fun _ s => s) ?_
  refine TA.takeW 7 rfl rfl rfl rfl (StepS.move rfl) (by kernel_rfl) (by kernel_rfl) (by kernel_rfl) rfl (.inr (fun _ s => s)) ?_
  refine TA.takeW 8 rfl rfl rfl rfl (StepS.extract rfl rfl) (by kernel_rfl) (by kernel_rfl) (by kernel_rfl) rfl (.inr (fun _ s => s)) ?_
  refine TA.takeW 9 rfl rfl rfl rfl (StepS.extract rfl rfl) (by kernel_rfl) (by kernel_rfl) (by kernel_rfl) rfl (.inr (fun _ s => s)) ?_
  refine TA.all1 (i := 10) (by kernel_rfl) ?_
  refine TB.of rfl ?_
  refine TO.alloc kinfo_100_bind_zero_some_agg_string_ByteArray_empty_I_0 rfl rfl fun bq4_10_1 => ?_
  refine TA.back (.inr (fun _ s => Sat.by [3, 3, 3] 3 1 (by kernel_rfl) s)) ?_
  refine TA.asL (L' := (Bx bq4_10_1 100 [.string ByteArray.empty, I 0] :: Bx b3 45 [I a1.1, .string a1.2.1, .string a1.2.2.1, I a1.2.2.2] :: Bx b0_ 103 [.map (some h0_1)] :: MF (fun k : ByteArray => .string k) (fun x : ByteArray × Int => .agg (cTsi x).toArray) h0_1 (a0) :: L)) (listed' := #[true, true, true, true, true, true, true, true, true, true, true, false, false]) (by kernel_rfl) (by kernel_rfl) ?_
  refine TA.all1 (i := 11) (by kernel_rfl) ?_
  refine TB.of rfl ?_
  refine TO.stB (us := [.string (((a0 a1.2.1).getD (ByteArray.empty, 0)).1), I (((a0 a1.2.1).getD (ByteArray.empty, 0)).2)]) 0 [.string (((a0 a1.2.1).getD (ByteArray.empty, 0)).1), I (((a0 a1.2.1).getD (ByteArray.empty, 0)).2)] rfl rfl rfl ksizeB_100_2_true rfl rfl rfl (by simp [Value.oneCell']) rfl ?_
  refine TA.back (.inl (by kernel_rfl)) ?_
  refine TA.asL (L' := (Bx bq4_10_1 100 [.string (((a0 a1.2.1).getD (ByteArray.empty, 0)).1), I (((a0 a1.2.1).getD (ByteArray.empty, 0)).2)] :: Bx b3 45 [I a1.1, .string a1.2.1, .string a1.2.2.1, I a1.2.2.2] :: Bx b0_ 103 [.map (some h0_1)] :: MF (fun k : ByteArray => .string k) (fun x : ByteArray × Int => .agg (cTsi x).toArray) h0_1 (a0) :: L)) (listed' := #[true, true, true, true, true, true, true, true, true, true, true, true, false]) (by kernel_rfl) (by kernel_rfl) ?_
  refine TA.takeW 12 rfl rfl rfl rfl (StepS.assign rfl) (by kernel_rfl) (by kernel_rfl) (by kernel_rfl) rfl (.inl (by kernel_rfl)) ?_
  refine TA.code (by kernel_rfl) ?_
  refine TC.k ?_
  refine TC.region ?_
  refine TO.s rfl rfl rfl (StepS.move rfl) ?_
  refine TO.code ?_
  refine TC.cond rfl (fun hc5 => ?_) (fun hc5 => ?_)
  · replace hm := cond_t hc5 hm
    refine TC.k ?_
    refine TC.region ?_
    refine TO.s rfl rfl rfl (StepS.assign rfl) ?_
    refine TO.code ?_
    cases hm
    refine TC.ret fun a w e s => ?_
    refine FRet.mk1 (P := Tryd.prog) (fn := Tryd.f36) (t := 4) e rfl rfl ?_
    refine ⟨_, _, rfl, ⟨h0_1, rfl, rfl⟩, ?_⟩
    refine s.mono fun _ s => ?_
    replace s := Sat.front 3 rfl s
    replace s := Sat.front 3 rfl s
    replace s := Sat.erase 2 s
    replace s := Sat.erase 2 s
    exact s
  · replace hm := cond_f hc5 hm
    refine TC.skipk ?_
    refine TC.k ?_
    refine TC.region ?_
    refine TO.s rfl rfl rfl (StepS.fld rfl kfieldB_45_1_1_true) ?_
    refine TO.s rfl rfl rfl (StepS.ldB rfl (Ent.at 1 rfl) kscalB_9_true rfl) ?_
    obtain ⟨⟨r6, r7⟩, hc8, hm⟩ := bind_some hm
    refine TO.q rfl rfl rfl (StepQ.call kcallB_42_true rfl rfl (fun _ st => C42  hc8 st)) ?_
    refine TO.s rfl rfl rfl (StepS.move rfl) ?_
    refine TO.s rfl rfl rfl (StepS.extract rfl rfl) ?_
    refine TO.s rfl rfl rfl (StepS.extract rfl rfl) ?_
    refine TO.s rfl rfl rfl (StepS.assign rfl) ?_
    refine TO.s rfl rfl rfl (StepS.assign rfl) ?_
    refine TO.code ?_
    refine TC.k ?_
    refine TC.k ?_
    refine TC.region ?_
    refine TO.s rfl rfl rfl (StepS.move rfl) ?_
    refine TO.s rfl rfl rfl (StepS.nilc rfl) ?_
    refine TO.s rfl rfl rfl (StepS.fld rfl kfieldB_103_0_0_true) ?_
    refine TO.s rfl rfl rfl (StepS.ldB rfl (Ent.at 2 rfl) kscalB_101_true rfl) ?_
    refine TO.s rfl rfl rfl (StepS.move rfl) ?_
    refine TO.s rfl rfl rfl (StepS.lookF2 (k := r6) (z := (ByteArray.empty, 0)) kmapGB_101_9_100_true (KeyOk.str kunderlying_9_some_string) kinfo_100_bind_zero_some_agg_string_ByteArray_empty_I_0 rfl (Ent.at 3 rfl) rfl) ?_
    refine TO.s rfl rfl rfl (StepS.move rfl) ?_
    refine TO.s rfl rfl rfl (StepS.extract rfl rfl) ?_
    refine TO.s rfl rfl rfl (StepS.extract rfl rfl) ?_
    refine TO.alloc kinfo_100_bind_zero_some_agg_string_ByteArray_empty_I_0 rfl rfl fun b9 => ?_
    refine TO.stB (us := [.string (((a0 r6).getD (ByteArray.empty, 0)).1), I (((a0 r6).getD (ByteArray.empty, 0)).2)]) 0 [.string (((a0 r6).getD (ByteArray.empty, 0)).1), I (((a0 r6).getD (ByteArray.empty, 0)).2)] rfl rfl rfl ksizeB_100_2_true rfl rfl rfl (by simp [Value.oneCell']) rfl ?_
    refine TO.s rfl rfl rfl (StepS.assign rfl) ?_
    refine TO.code ?_
    refine TC.k ?_
    refine TC.region ?_
    refine TO.s rfl rfl rfl (StepS.move rfl) ?_
    refine TO.s rfl rfl rfl (StepS.not rfl) ?_
    refine TO.code ?_
    refine TC.cond rfl (fun hc10 => ?_) (fun hc10 => ?_)
    · replace hm := cond_t hc10 hm
      refine TC.k ?_
      refine TC.region ?_
      refine TO.s rfl rfl rfl (StepS.assign rfl) ?_
      refine TO.code ?_
      cases hm
      refine TC.ret fun a w e s => ?_
      refine FRet.mk1 (P := Tryd.prog) (fn := Tryd.f36) (t := 4) e rfl rfl ?_
      refine ⟨_, _, rfl, ⟨h0_1, rfl, rfl⟩, ?_⟩
      refine s.mono fun _ s => ?_
      replace s := Sat.front 4 rfl s
      replace s := Sat.front 4 rfl s
      replace s := Sat.erase 2 s
      replace s := Sat.erase 2 s
      replace s := Sat.erase 2 s
      exact s
    · replace hm := cond_f hc10 hm
      refine TC.skipk ?_
      refine TC.k ?_
      refine TC.k ?_
      refine TC.region ?_
      refine TO.s rfl rfl rfl (StepS.move rfl) ?_
      refine TO.s rfl rfl rfl (StepS.nilc rfl) ?_
      refine TO.s rfl rfl rfl (StepS.fld rfl kfieldB_103_0_0_true) ?_
      refine TO.s rfl rfl rfl (StepS.ldB rfl (Ent.at 3 rfl) kscalB_101_true rfl) ?_
      refine TO.s rfl rfl rfl (StepS.lenF rfl (Ent.at 4 rfl) kmapGB_101_9_100_true rfl) ?_
      refine TO.s rfl rfl rfl (StepS.cmp rfl rfl rfl) ?_
      refine TO.code ?_
      refine TC.cond rfl (fun hc11 => ?_) (fun hc11 => ?_)
      · replace hm := cond_t hc11 hm
        refine TC.k ?_
        refine TC.region ?_
        refine TO.s rfl rfl rfl (StepS.assign rfl) ?_
        refine TO.code ?_
        cases hm
        refine TC.ret fun a w e s => ?_
        refine FRet.mk1 (P := Tryd.prog) (fn := Tryd.f36) (t := 4) e rfl rfl ?_
        refine ⟨_, _, rfl, ⟨h0_1, rfl, rfl⟩, ?_⟩
        refine s.mono fun _ s => ?_
        replace s := Sat.front 4 rfl s
        replace s := Sat.front 4 rfl s
        replace s := Sat.erase 2 s
        replace s := Sat.erase 2 s
        replace s := Sat.erase 2 s
        exact s
      · replace hm := cond_f hc11 hm
        refine TC.skipk ?_
        refine TC.k ?_
        refine TC.region_tail 9 kfollows_mixedOrders_true (by kernel_rfl) ?_
        refine TS.s rfl rfl rfl (StepS.move rfl) ?_
        refine TS.s rfl rfl rfl (StepS.nilc rfl) ?_
        refine TS.s rfl rfl rfl (StepS.fld rfl kfieldB_103_0_0_true) ?_
        refine TS.s rfl rfl rfl (StepS.ldB rfl (Ent.at 3 rfl) kscalB_101_true rfl) ?_
        refine TS.s rfl rfl rfl (StepS.fld rfl kfieldB_45_1_1_true) ?_
        refine TS.s rfl rfl rfl (StepS.ldB rfl (Ent.at 2 rfl) kscalB_9_true rfl) ?_
        refine TS.s rfl rfl rfl (StepS.fld rfl kfieldB_45_2_2_true) ?_
        refine TS.s rfl rfl rfl (StepS.ldB rfl (Ent.at 2 rfl) kscalB_9_true rfl) ?_
        refine TS.s rfl rfl rfl (StepS.build (cs := [.string a1.2.2.1, I 0]) rfl (by kernel_rfl)) ?_
        refine TS.nil ?_
        refine TO.at ?_
        refine TO.msetF (k := a1.2.1) (v := (a1.2.2.1, 0)) 4 kmapGB_101_9_100_true (KeyOk.str kunderlying_9_some_string) rfl rfl rfl rfl ?_
        refine TO.code ?_
        refine TC.k ?_
        refine TC.region ?_
        refine TO.s rfl rfl rfl (StepS.assign rfl) ?_
        refine TO.code ?_
        cases hm
        refine TC.ret fun a w e s => ?_
        refine FRet.mk1 (P := Tryd.prog) (fn := Tryd.f36) (t := 4) e rfl rfl ?_
        refine ⟨_, _, rfl, ⟨h0_1, rfl, rfl⟩, ?_⟩
        refine s.mono fun _ s => ?_
        replace s := Sat.front 4 rfl s
        replace s := Sat.front 4 rfl s
        replace s := Sat.erase 2 s
        replace s := Sat.erase 2 s
        replace s := Sat.erase 2 s
        exact s

set_option maxRecDepth 100000 in
theorem C37 {B : World} {L : List HP} {a0 : ByteArray → Option (ByteArray × Int)} {a1 : ByteArray} {b0_ : Nat} {h0_1 : Nat} {r0 : List ByteArray} {s0 : ByteArray → Option (ByteArray × Int)} (hm : F37 a0 a1 = some (r0, s0)) {w : World} (st : St B (Bx b0_ 103 [.map (some h0_1)] :: MF (fun k : ByteArray => .string k) (fun x : ByteArray × Int => .agg (cTsi x).toArray) h0_1 (a0) :: L) w) : Calls Tryd.prog 37 #[.pointer (some ⟨b0_, 0, none⟩), .string a1] w (fun e w' => ∃ v M, e = .returned v ∧ (∃ (qr1 : Nat) (qv2 : Value), v = qv2 ∧ M = (Bx b0_ 103 [.map (some qr1)] :: MF (fun k : ByteArray => .string k) (fun x : ByteArray × Int => .agg (cTsi x).toArray) qr1 (s0) :: OwnS 9 1 qv2 (r0.map cS) :: L)) ∧ St B M w') := by
  refine calls_of (N := 37) (L := (Bx b0_ 103 [.map (some h0_1)] :: MF (fun k : ByteArray => .string k) (fun x : ByteArray × Int => .agg (cTsi x).toArray) h0_1 (a0) :: L)) (args := [.pointer (some ⟨b0_, 0, none⟩), .string a1]) Tryd.func37 rfl rfl rfl ?_ st
  dsimp only [F37] at hm
  refine TC.k ?_
  refine TC.region ?_
  refine TO.s rfl rfl rfl (StepS.assign rfl) ?_
  refine TO.code ?_
  refine TC.k ?_
  refine TC.region ?_
  refine TO.s rfl rfl rfl (StepS.assign rfl) ?_
  refine TO.code ?_
  refine TC.k ?_
  refine TC.k ?_
  refine TC.region ?_
  refine TO.s rfl rfl rfl (StepS.move rfl) ?_
  refine TO.s rfl rfl rfl (StepS.nilc rfl) ?_
  refine TO.s rfl rfl rfl (StepS.fld rfl kfieldB_103_0_0_true) ?_
  refine TO.s rfl rfl rfl (StepS.ldB rfl (Ent.at 0 rfl) kscalB_101_true rfl) ?_
  refine TO.ghost (fun _ s => Sat.front 1 rfl s) ?_
  refine TO.range kmapGB_101_9_100_true rfl rfl fun it4 => ?_
  refine TO.code ?_
  obtain ⟨o15, hw16, hm⟩ := bind_some hm
  refine TC.rangeQ hw16 (fun q5 y11 => fun a w => ∃ v9 : Value, Mid 37 B [(1, .string a1), (5, v9), (13, .pointer (some ⟨it4, 0, none⟩))] (OwnS 9 1 v9 (y11.map cS) :: MFR (fun k : ByteArray => .string k) (fun x : ByteArray × Int => .agg (cTsi x).toArray) it4 h0_1 (a0) q5 :: Bx b0_ 103 [.map (some h0_1)] :: L) a w) (fun y11 => fun a w => ∃ v9 : Value, Mid 37 B [(5, v9)] (MF (fun k : ByteArray => .string k) (fun x : ByteArray × Int => .agg (cTsi x).toArray) h0_1 (a0) :: OwnS 9 1 v9 (y11.map cS) :: Bx b0_ 103 [.map (some h0_1)] :: L) a w) (fun (_ : Unit) _ _ => False) ?_ ?_ ?_
  · rintro q5 y11 hb17r a w ⟨v9, he, hs⟩
    refine TC.use ?_ he hs
    refine TC.k ?_
    refine TC.region ?_
    refine TO.next 1 rfl rfl rfl (fun hd19 => ?_) (fun k6 v7 hk8 hn18 => ?_)
    · refine TO.s rfl rfl rfl (StepS.extract rfl rfl) ?_
      refine TO.code ?_
      refine TC.k ?_
      refine TC.condF rfl ?_
      refine TC.exit rfl fun a w e s => ?_
      exact ⟨hd19, v9, e.sub (lk_of_allIn ⟨rfl, trivial⟩), s.mono fun _ s => (by replace s := Sat.front 1 rfl s; replace s := Sat.unrange s; exact s)⟩
    · refine TO.s rfl rfl rfl (StepS.extract rfl rfl) ?_
      refine TO.code ?_
      obtain ⟨_, hb170⟩ := hb17r k6 v7 hk8 hn18
      have hb17 := hb170
      refine TC.rmore (Pre := fun q5 y11 => fun a w => ∃ v9 : Value, Mid 37 B [(1, .string a1), (5, v9), (13, .pointer (some ⟨it4, 0, none⟩))] (OwnS 9 1 v9 (y11.map cS) :: MFR (fun k : ByteArray => .string k) (fun x : ByteArray × Int => .agg (cTsi x).toArray) it4 h0_1 (a0) q5 :: Bx b0_ 103 [.map (some h0_1)] :: L) a w) (Ret := fun (_ : Unit) _ _ => False) 0 hk8 hn18 hb170 ?_
      dsimp only [F37_L0] at hb17
      refine TC.k ?_
      refine TC.condT rfl ?_
      refine TC.skipk ?_
      refine TC.block ?_
      refine TC.k ?_
      refine TC.region ?_
      refine TO.s rfl rfl rfl (StepS.entryF rfl (Ent.at 1 rfl)) ?_
      refine TO.s rfl rfl rfl (StepS.extract rfl rfl) ?_
      refine TO.s rfl rfl rfl (StepS.assign rfl) ?_
      refine TO.code ?_
      refine TC.k ?_
      refine TC.region ?_
      refine TO.s rfl rfl rfl (StepS.move rfl) ?_
      obtain ⟨⟨r20, r21⟩, hc22, hb17⟩ := bind_some hb17
      refine TO.q rfl rfl rfl (StepQ.call kcallB_42_true rfl rfl (fun _ st => C42  hc22 st)) ?_
      refine TO.s rfl rfl rfl (StepS.move rfl) ?_
      refine TO.s rfl rfl rfl (StepS.extract rfl rfl) ?_
      refine TO.s rfl rfl rfl (StepS.extract rfl rfl) ?_
      refine TO.s rfl rfl rfl (StepS.assign rfl) ?_
      refine TO.s rfl rfl rfl (StepS.assign rfl) ?_
      refine TO.code ?_
      refine TC.k ?_
      refine TC.region ?_
      refine TO.s rfl rfl rfl (StepS.move rfl) ?_
      refine TO.s rfl rfl rfl (StepS.move rfl) ?_
      refine TO.s rfl rfl rfl (StepS.cmpS kunderlying_9_some_string rfl rfl rfl) ?_
      refine TO.s rfl rfl rfl (StepS.move rfl) ?_
      refine TO.mid1 3 29 (.bool ((sEq r20 a1) && (!sEq k6 (ByteArray.mk #[47])))) ?_ ?_
      · refine bcase ((sEq r20 a1)) (fun hb23 => ?_) (fun hb23 => ?_)
        · refine TO.sw rfl rfl rfl hb23 rfl rfl (StepS.move rfl) ?_
          refine TO.sw rfl rfl rfl hb23 rfl rfl (StepS.cmpS kunderlying_9_some_string rfl rfl rfl) ?_
          refine TO.s rfl rfl rfl (StepS.pickT rfl hb23 rfl) ?_
          exact TO.up1 3 0 rfl rfl (by rw [hb23]; rfl) rfl
        · refine TO.skip rfl rfl rfl (skipF hb23) rfl rfl ?_
          refine TO.skip rfl rfl rfl (skipF hb23) rfl rfl ?_
          refine TO.s rfl rfl rfl (StepS.pickF rfl hb23 rfl) ?_
          exact TO.up1 3 0 rfl rfl (by rw [hb23]; rfl) rfl
      refine TO.code ?_
      refine TC.cond rfl (fun hc24 => ?_) (fun hc24 => ?_)
      · replace hb17 := cond_t hc24 hb17
        refine TC.region ?_
        refine TO.s rfl rfl rfl (StepS.move rfl) ?_
        refine TO.s rfl rfl rfl (StepS.move rfl) ?_
        refine TO.litS (f := cS) ([r21] : List ByteArray) kelemB_39_9_1_16_true kinfo_9_bind_zero_some_string_ByteArray_empty rfl rfl (fun _ => rfl) rfl rfl (by kernel_rfl) rfl fun v25 => ?_
        obtain ⟨y27, hk28, hb17⟩ := bind_some hb17
        refine TO.app (k := 1) (f := cS) kelemB_39_9_1_16_true (by decide) rfl rfl rfl (OwnS.rd (Ent.at 0 rfl)) hk28 (fun x c hc => by simp [Value.oneCell'] at hc ⊢; first | (obtain rfl := hc; rfl) | (rcases hc with rfl <;> rfl)) rfl rfl fun v29 => ?_
        refine TO.s rfl rfl rfl (StepS.assign rfl) ?_
        cases hb17
        refine TO.nil fun a w e s => ?_
        exact ⟨v29, e.sub (lk_of_allIn ⟨rfl, rfl, rfl, trivial⟩), s.mono fun _ => Sat.dropN 1⟩
      · replace hb17 := cond_f hc24 hb17
        cases hb17
        refine TC.skip fun a w e s => ?_
        exact ⟨v9, e.sub (lk_of_allIn ⟨rfl, rfl, rfl, trivial⟩), s⟩
  · exact fun a w e s => ⟨.slice none 0 0, e.sub (lk_of_allIn ⟨rfl, rfl, rfl, trivial⟩), s.mono fun _ s => (by replace s := Sat.nilS (e := 9) (sz := 1) (f := cS) s; exact Sat.by [2, 2, 2] 3 0 (by kernel_rfl) s)⟩
  · rintro y11 hR31 a w ⟨v9, he, hs⟩
    replace hm := permK_spec hm _ hR31
    refine TC.use ?_ he hs
    refine TC.k ?_
    refine TC.region ?_
    refine TO.s rfl rfl rfl (StepS.move rfl) ?_
    obtain ⟨y32, hs33, hm⟩ := bind_some hm
    refine TO.sortSO 1 kcallB_48_true stlay hs33 rfl rfl rfl rfl ?_
    refine TO.code ?_
    refine TC.k ?_
    refine TC.region ?_
    refine TO.s rfl rfl rfl (StepS.move rfl) ?_
    refine TO.s rfl rfl rfl (StepS.assign rfl) ?_
    refine TO.code ?_
    cases hm
    refine TC.ret fun a w e s => ?_
    refine FRet.mk1 (P := Tryd.prog) (fn := Tryd.f37) (t := 4) e rfl rfl ?_
    refine ⟨_, _, rfl, ⟨h0_1, (v9), rfl, rfl⟩, ?_⟩
    refine s.mono fun _ s => ?_
    replace s := Sat.front 1 rfl s
    replace s := Sat.front 1 rfl s
    replace s := Sat.front 2 rfl s
    exact s

set_option maxHeartbeats 4000000 in
set_option maxRecDepth 100000 in
theorem C29 {B : World} {L : List HP} {a0 : ByteArray → Option (ByteArray × Int)} {a1 : Int × ByteArray × ByteArray × Int} {b0_ : Nat} {h0_1 : Nat} {r0 : Int × ByteArray × Int × List ByteArray} {s0 : ByteArray → Option (ByteArray × Int)} (hm : F29 a0 a1 = some (r0, s0)) {w : World} (st : St B (Bx b0_ 103 [.map (some h0_1)] :: MF (fun k : ByteArray => .string k) (fun x : ByteArray × Int => .agg (cTsi x).toArray) h0_1 (a0) :: L) w) : Calls Tryd.prog 29 #[.pointer (some ⟨b0_, 0, none⟩), .agg (cTissi a1).toArray] w (fun e w' => ∃ v M, e = .returned v ∧ (∃ (qr1 : Nat) (qv2 : Value), v = .agg #[I r0.1, .string r0.2.1, I r0.2.2.1, qv2] ∧ M = (Bx b0_ 103 [.map (some qr1)] :: MF (fun k : ByteArray => .string k) (fun x : ByteArray × Int => .agg (cTsi x).toArray) qr1 (s0) :: OwnS 9 1 qv2 (r0.2.2.2.map cS) :: L)) ∧ St B M w') := by
  refine calls_of (N := 140) (L := (Bx b0_ 103 [.map (some h0_1)] :: MF (fun k : ByteArray => .string k) (fun x : ByteArray × Int => .agg (cTsi x).toArray) h0_1 (a0) :: L)) (args := [.pointer (some ⟨b0_, 0, none⟩), .agg (cTissi a1).toArray]) Tryd.func29 rfl rfl rfl ?_ st
  dsimp only [F29] at hm
  refine TC.k ?_
  refine TC.region ?_
  refine TO.box (cs := [I a1.1, .string a1.2.1, .string a1.2.2.1, I a1.2.2.2]) rfl rfl rfl fun b4 => ?_
  refine TO.alloc kinfo_41_bind_zero_some_agg_I_0_string_ByteArray_empty_I_0_slice_none_0_0 rfl rfl fun b5 => ?_
  refine TO.code ?_
  refine TC.k ?_
  refine TC.region_any (Bx b5 41 [I 0, .string ByteArray.empty, I 0, .slice none 0 0] :: Bx b4 45 [I a1.1, .string a1.2.1, .string a1.2.2.1, I a1.2.2.2] :: Bx b0_ 103 [.map (some h0_1)] :: MF (fun k : ByteArray => .string k) (fun x : ByteArray × Int => .agg (cTsi x).toArray) h0_1 (a0) :: L) 11 13 kfollows_mixedOrders_true rfl ?_
  refine TA.takeW 0 rfl rfl rfl rfl (StepS.move rfl) (by kernel_rfl) (by kernel_rfl) (by kernel_rfl) rfl (.inr (fun _ s => s)) ?_
  refine TA.takeW 1 rfl rfl rfl rfl (StepS.nilc rfl) (by kernel_rfl) (by kernel_rfl) (by kernel_rfl) rfl (.inr (fun _ s => s)) ?_
  refine TA.takeW 2 rfl rfl rfl rfl (StepS.fld rfl kfieldB_103_0_0_true) (by kernel_rfl) (by kernel_rfl) (by kernel_rfl) rfl (.inr (fun _ s => s)) ?_
  refine TA.take 3 rfl rfl rfl rfl (StepS.ldB rfl (Ent.at 2 rfl) kscalB_101_true rfl) (by kernel_rfl) (by kernel_rfl) (by kernel_rfl) (by kernel_rfl) (by kernel_rfl) (fun _ s => s) ?_
  refine TA.takeW 4 rfl rfl rfl rfl (StepS.fld rfl kfieldB_45_1_1_true) (by kernel_rfl) (by kernel_rfl) (by kernel_rfl) rfl (.inr (fun _ s => s)) ?_
  refine TA.take 5 rfl rfl rfl rfl (StepS.ldB rfl (Ent.at 1 rfl) kscalB_9_true rfl) (by kernel_rfl) (by kernel_rfl) (by kernel_rfl) (by kernel_rfl) (by kernel_rfl) (fun _ s => s) ?_
  refine TA.take 6 rfl rfl rfl rfl (StepS.lookF2 (k := a1.2.1) (z := (ByteArray.empty, 0)) kmapGB_101_9_100_true (KeyOk.str kunderlying_9_some_string) kinfo_100_bind_zero_some_agg_string_ByteArray_empty_I_0 rfl (Ent.at 3 rfl) rfl) (by kernel_rfl) (by kernel_rfl) (by kernel_rfl) (by kernel_rfl) (by kernel_rfl) (fun _ s => s) ?_
  refine TA.takeW 7 rfl rfl rfl rfl (StepS.move rfl) (by kernel_rfl) (by kernel_rfl) (by kernel_rfl) rfl (.inr (fun _ s => s)) ?_
  refine TA.takeW 8 rfl rfl rfl rfl (StepS.extract rfl rfl) (by kernel_rfl) (by kernel_rfl) (by kernel_rfl) rfl (.inr (fun _ s => s)) ?_
  refine TA.takeW 9 rfl rfl rfl rfl (StepS.extract rfl rfl) (by kernel_rfl) (by kernel_rfl) (by kernel_rfl) rfl (.inr (fun _ s => s)) ?_
  refine TA.all1 (i := 10) (by kernel_rfl) ?_
  refine TB.of rfl ?_
  refine TO.alloc kinfo_100_bind_zero_some_agg_string_ByteArray_empty_I_0 rfl rfl fun bq6_10_1 => ?_
  refine TA.back (.inr (fun _ s => Sat.by [4, 4, 4, 4] 4 1 (by kernel_rfl) s)) ?_
  refine TA.asL (L' := (Bx bq6_10_1 100 [.string ByteArray.empty, I 0] :: Bx b5 41 [I 0, .string ByteArray.empty, I 0, .slice none 0 0] :: Bx b4 45 [I a1.1, .string a1.2.1, .string a1.2.2.1, I a1.2.2.2] :: Bx b0_ 103 [.map (some h0_1)] :: MF (fun k : ByteArray => .string k) (fun x : ByteArray × Int => .agg (cTsi x).toArray) h0_1 (a0) :: L)) (listed' := #[true, true, true, true, true, true, true, true, true, true, true, false, false]) (by kernel_rfl) (by kernel_rfl) ?_
  refine TA.all1 (i := 11) (by kernel_rfl) ?_
  refine TB.of rfl ?_
  refine TO.stB (us := [.string (((a0 a1.2.1).getD (ByteArray.empty, 0)).1), I (((a0 a1.2.1).getD (ByteArray.empty, 0)).2)]) 0 [.string (((a0 a1.2.1).getD (ByteArray.empty, 0)).1), I (((a0 a1.2.1).getD (ByteArray.empty, 0)).2)] rfl rfl rfl ksizeB_100_2_true rfl rfl rfl (by simp [Value.oneCell']) rfl ?_
  refine TA.back (.inl (by kernel_rfl)) ?_
  refine TA.asL (L' := (Bx bq6_10_1 100 [.string (((a0 a1.2.1).getD (ByteArray.empty, 0)).1), I (((a0 a1.2.1).getD (ByteArray.empty, 0)).2)] :: Bx b5 41 [I 0, .string ByteArray.empty, I 0, .slice none 0 0] :: Bx b4 45 [I a1.1, .string a1.2.1, .string a1.2.2.1, I a1.2.2.2] :: Bx b0_ 103 [.map (some h0_1)] :: MF (fun k : ByteArray => .string k) (fun x : ByteArray × Int => .agg (cTsi x).toArray) h0_1 (a0) :: L)) (listed' := #[true, true, true, true, true, true, true, true, true, true, true, true, false]) (by kernel_rfl) (by kernel_rfl) ?_
  refine TA.takeW 12 rfl rfl rfl rfl (StepS.assign rfl) (by kernel_rfl) (by kernel_rfl) (by kernel_rfl) rfl (.inl (by kernel_rfl)) ?_
  refine TA.code (by kernel_rfl) ?_
  refine TC.k ?_
  refine TC.region ?_
  refine TO.s rfl rfl rfl (StepS.fld rfl kfieldB_45_0_0_true) ?_
  refine TO.s rfl rfl rfl (StepS.ldB rfl (Ent.at 2 rfl) kscalB_3_true rfl) ?_
  refine TO.s rfl rfl rfl (StepS.cmp rfl rfl rfl) ?_
  refine TO.s rfl rfl rfl (StepS.move rfl) ?_
  refine TO.mid1 4 25 (.bool ((a1.1 == 1) || (a1.1 == 2))) ?_ ?_
  · refine bcase ((a1.1 == 1)) (fun hb7 => ?_) (fun hb7 => ?_)
    · refine TO.skip rfl rfl rfl (skipT hb7) rfl rfl ?_
      refine TO.skip rfl rfl rfl (skipT hb7) rfl rfl ?_
      refine TO.skip rfl rfl rfl (skipT hb7) rfl rfl ?_
      refine TO.s rfl rfl rfl (StepS.pickT rfl hb7 rfl) ?_
      exact TO.up1 4 0 rfl rfl (by rw [hb7]; rfl) rfl
    · refine TO.sw rfl rfl rfl hb7 rfl rfl (StepS.fld rfl kfieldB_45_0_0_true) ?_
      refine TO.sw rfl rfl rfl hb7 rfl rfl (StepS.ldB rfl (Ent.at 2 rfl) kscalB_3_true rfl) ?_
      refine TO.sw rfl rfl rfl hb7 rfl rfl (StepS.cmp rfl rfl rfl) ?_
      refine TO.s rfl rfl rfl (StepS.pickF rfl hb7 rfl) ?_
      exact TO.up1 4 0 rfl rfl (by rw [hb7]; rfl) rfl
  refine TO.s rfl rfl rfl (StepS.assign rfl) ?_
  refine TO.code ?_
  refine TC.k ?_
  refine TC.block ?_
  refine TC.k ?_
  refine TC.region ?_
  refine TO.s rfl rfl rfl (StepS.fld rfl kfieldB_45_0_0_true) ?_
  refine TO.s rfl rfl rfl (StepS.ldB rfl (Ent.at 2 rfl) kscalB_3_true rfl) ?_
  refine TO.s rfl rfl rfl (StepS.cmp rfl rfl rfl) ?_
  refine TO.s rfl rfl rfl (StepS.move rfl) ?_
  refine TO.mid1 4 34 (.bool ((decide (a1.1 < 1)) || (decide (a1.1 > 5)))) ?_ ?_
  · refine bcase ((decide (a1.1 < 1))) (fun hb8 => ?_) (fun hb8 => ?_)
    · refine TO.skip rfl rfl rfl (skipT hb8) rfl rfl ?_
      refine TO.skip rfl rfl rfl (skipT hb8) rfl rfl ?_
      refine TO.skip rfl rfl rfl (skipT hb8) rfl rfl ?_
      refine TO.s rfl rfl rfl (StepS.pickT rfl hb8 rfl) ?_
      exact TO.up1 4 0 rfl rfl (by rw [hb8]; rfl) rfl
    · refine TO.sw rfl rfl rfl hb8 rfl rfl (StepS.fld rfl kfieldB_45_0_0_true) ?_
      refine TO.sw rfl rfl rfl hb8 rfl rfl (StepS.ldB rfl (Ent.at 2 rfl) kscalB_3_true rfl) ?_
      refine TO.sw rfl rfl rfl hb8 rfl rfl (StepS.cmp rfl rfl rfl) ?_
      refine TO.s rfl rfl rfl (StepS.pickF rfl hb8 rfl) ?_
      exact TO.up1 4 0 rfl rfl (by rw [hb8]; rfl) rfl
  refine TO.s rfl rfl rfl (StepS.assign rfl) ?_
  refine TO.code ?_
  refine TC.cond rfl (fun hc9 => ?_) (fun hc9 => ?_)
  · replace hm := cond_t hc9 hm
    refine TC.k ?_
    refine TC.region ?_
    refine TO.s rfl rfl rfl (StepS.build (cs := [I 6, .string ByteArray.empty, I 0, .slice none 0 0]) rfl (by kernel_rfl)) ?_
    refine TO.stB (us := [I 6, .string ByteArray.empty, I 0, .slice none 0 0]) 1 [I 6, .string ByteArray.empty, I 0, .slice none 0 0] rfl rfl rfl ksizeB_41_4_true rfl rfl rfl (by simp [Value.oneCell']) rfl ?_
    refine TO.code ?_
    cases hm
    refine TC.ret fun a w e s => ?_
    refine FRet.cell1 (P := Tryd.prog) (fn := Tryd.f29) e s rfl rfl (Ent.at 1 rfl) kaggB_41_4_true rfl ?_
    refine ⟨_, _, rfl, ⟨h0_1, (.slice none 0 0), rfl, rfl⟩, ?_⟩
    refine s.mono fun _ s => ?_
    replace s := Sat.nilS (e := 9) (sz := 1) (f := cS) s
    replace s := Sat.front 5 rfl s
    replace s := Sat.front 5 rfl s
    replace s := Sat.erase 3 s
    replace s := Sat.erase 3 s
    replace s := Sat.erase 3 s
    exact s
  · replace hm := cond_f hc9 hm
    refine TC.k ?_
    refine TC.region ?_
    refine TO.s rfl rfl rfl (StepS.fld rfl kfieldB_45_1_1_true) ?_
    refine TO.s rfl rfl rfl (StepS.ldB rfl (Ent.at 2 rfl) kscalB_9_true rfl) ?_
    obtain ⟨r10, hc11, hm⟩ := bind_some hm
    refine TO.q rfl rfl rfl (StepQ.call kcallB_35_true rfl rfl (fun _ st => C35  hc11 st)) ?_
    refine TO.s rfl rfl rfl (StepS.not rfl) ?_
    refine TO.s rfl rfl rfl (StepS.assign rfl) ?_
    refine TO.code ?_
    refine TC.cond rfl (fun hc12 => ?_) (fun hc12 => ?_)
    · replace hm := cond_t hc12 hm
      refine TC.k ?_
      refine TC.region ?_
      refine TO.s rfl rfl rfl (StepS.build (cs := [I 3, .string ByteArray.empty, I 0, .slice none 0 0]) rfl (by kernel_rfl)) ?_
      refine TO.stB (us := [I 3, .string ByteArray.empty, I 0, .slice none 0 0]) 1 [I 3, .string ByteArray.empty, I 0, .slice none 0 0] rfl rfl rfl ksizeB_41_4_true rfl rfl rfl (by simp [Value.oneCell']) rfl ?_
      refine TO.code ?_
      cases hm
      refine TC.ret fun a w e s => ?_
      refine FRet.cell1 (P := Tryd.prog) (fn := Tryd.f29) e s rfl rfl (Ent.at 1 rfl) kaggB_41_4_true rfl ?_
      refine ⟨_, _, rfl, ⟨h0_1, (.slice none 0 0), rfl, rfl⟩, ?_⟩
      refine s.mono fun _ s => ?_
      replace s := Sat.nilS (e := 9) (sz := 1) (f := cS) s
      replace s := Sat.front 5 rfl s
      replace s := Sat.front 5 rfl s
      replace s := Sat.erase 3 s
      replace s := Sat.erase 3 s
      replace s := Sat.erase 3 s
      exact s
    · replace hm := cond_f hc12 hm
      refine TC.k ?_
      refine TC.region ?_
      refine TO.s rfl rfl rfl (StepS.move rfl) ?_
      refine TO.s rfl rfl rfl (StepS.move rfl) ?_
      refine TO.mid1 5 49 (.bool (((a1.1 == 1) || (a1.1 == 2)) && (decide ((a1.2.2.1.size : Int) > 20)))) ?_ ?_
      · refine bcase (((a1.1 == 1) || (a1.1 == 2))) (fun hb13 => ?_) (fun hb13 => ?_)
        · refine TO.sw rfl rfl rfl hb13 rfl rfl (StepS.fld rfl kfieldB_45_2_2_true) ?_
          refine TO.sw rfl rfl rfl hb13 rfl rfl (StepS.ldB rfl (Ent.at 2 rfl) kscalB_9_true rfl) ?_
          refine TO.sw rfl rfl rfl hb13 rfl rfl (StepS.lenS kunderlying_9_some_string rfl rfl) ?_
          refine TO.sw rfl rfl rfl hb13 rfl rfl (StepS.cmp rfl rfl rfl) ?_
          refine TO.s rfl rfl rfl (StepS.pickT rfl hb13 rfl) ?_
          exact TO.up1 5 0 rfl rfl (by rw [hb13]; rfl) rfl
        · refine TO.skip rfl rfl rfl (skipF hb13) rfl rfl ?_
          refine TO.skip rfl rfl rfl (skipF hb13) rfl rfl ?_
          refine TO.skip rfl rfl rfl (skipF hb13) rfl rfl ?_
          refine TO.skip rfl rfl rfl (skipF hb13) rfl rfl ?_
          refine TO.s rfl rfl rfl (StepS.pickF rfl hb13 rfl) ?_
          exact TO.up1 5 0 rfl rfl (by rw [hb13]; rfl) rfl
      refine TO.s rfl rfl rfl (StepS.assign rfl) ?_
      refine TO.code ?_
      refine TC.cond rfl (fun hc14 => ?_) (fun hc14 => ?_)
      · replace hm := cond_t hc14 hm
        refine TC.k ?_
        refine TC.region ?_
        refine TO.s rfl rfl rfl (StepS.build (cs := [I 1, .string ByteArray.empty, I 0, .slice none 0 0]) rfl (by kernel_rfl)) ?_
        refine TO.stB (us := [I 1, .string ByteArray.empty, I 0, .slice none 0 0]) 1 [I 1, .string ByteArray.empty, I 0, .slice none 0 0] rfl rfl rfl ksizeB_41_4_true rfl rfl rfl (by simp [Value.oneCell']) rfl ?_
        refine TO.code ?_
        cases hm
        refine TC.ret fun a w e s => ?_
        refine FRet.cell1 (P := Tryd.prog) (fn := Tryd.f29) e s rfl rfl (Ent.at 1 rfl) kaggB_41_4_true rfl ?_
        refine ⟨_, _, rfl, ⟨h0_1, (.slice none 0 0), rfl, rfl⟩, ?_⟩
        refine s.mono fun _ s => ?_
        replace s := Sat.nilS (e := 9) (sz := 1) (f := cS) s
        replace s := Sat.front 5 rfl s
        replace s := Sat.front 5 rfl s
        replace s := Sat.erase 3 s
        replace s := Sat.erase 3 s
        replace s := Sat.erase 3 s
        exact s
      · replace hm := cond_f hc14 hm
        refine TC.k ?_
        refine TC.region ?_
        refine TO.s rfl rfl rfl (StepS.fld rfl kfieldB_45_0_0_true) ?_
        refine TO.s rfl rfl rfl (StepS.ldB rfl (Ent.at 2 rfl) kscalB_3_true rfl) ?_
        refine TO.s rfl rfl rfl (StepS.cmp rfl rfl rfl) ?_
        refine TO.s rfl rfl rfl (StepS.assign rfl) ?_
        refine TO.code ?_
        refine TC.cond rfl (fun hc15 => ?_) (fun hc15 => ?_)
        · replace hm := cond_t hc15 hm
          refine TC.k ?_
          refine TC.region ?_
          refine TO.s rfl rfl rfl (StepS.move rfl) ?_
          refine TO.s rfl rfl rfl (StepS.ldBA rfl (Ent.at 2 rfl) kaggB_45_4_true rfl rfl) ?_
          refine TO.ghost (fun _ s => Sat.front 4 rfl s) ?_
          refine TO.ghost (fun _ s => Sat.front 4 rfl s) ?_
          obtain ⟨⟨r16, r17⟩, hc18, hm⟩ := bind_some hm
          refine TO.callO kcallB_36_true rfl rfl rfl (fun _ st => C36 (a0 := a0)  hc18 st) ?_
          rintro _ _ ⟨r19, rfl, rfl⟩
          refine TO.s rfl rfl rfl (StepS.build (cs := [I r16, .string ByteArray.empty, I 0, .slice none 0 0]) rfl (by kernel_rfl)) ?_
          refine TO.stB (us := [I r16, .string ByteArray.empty, I 0, .slice none 0 0]) 3 [I r16, .string ByteArray.empty, I 0, .slice none 0 0] rfl rfl rfl ksizeB_41_4_true rfl rfl rfl (by simp [Value.oneCell']) rfl ?_
          refine TO.code ?_
          cases hm
          refine TC.ret fun a w e s => ?_
          refine FRet.cell1 (P := Tryd.prog) (fn := Tryd.f29) e s rfl rfl (Ent.at 3 rfl) kaggB_41_4_true rfl ?_
          refine ⟨_, _, rfl, ⟨r19, (.slice none 0 0), rfl, rfl⟩, ?_⟩
          refine s.mono fun _ s => ?_
          replace s := Sat.nilS (e := 9) (sz := 1) (f := cS) s
          replace s := Sat.front 2 rfl s
          replace s := Sat.front 2 rfl s
          replace s := Sat.erase 3 s
          replace s := Sat.erase 3 s
          replace s := Sat.erase 3 s
          exact s
        · replace hm := cond_f hc15 hm
          refine TC.k ?_
          refine TC.region ?_
          refine TO.s rfl rfl rfl (StepS.fld rfl kfieldB_45_0_0_true) ?_
          refine TO.s rfl rfl rfl (StepS.ldB rfl (Ent.at 2 rfl) kscalB_3_true rfl) ?_
          refine TO.s rfl rfl rfl (StepS.cmp rfl rfl rfl) ?_
          refine TO.s rfl rfl rfl (StepS.move rfl) ?_
          refine TO.mid1 4 67 (.bool ((a1.1 == 3) && (sEq a1.2.1 (ByteArray.mk #[47])))) ?_ ?_
          · refine bcase ((a1.1 == 3)) (fun hb21 => ?_) (fun hb21 => ?_)
            · refine TO.sw rfl rfl rfl hb21 rfl rfl (StepS.fld rfl kfieldB_45_1_1_true) ?_
              refine TO.sw rfl rfl rfl hb21 rfl rfl (StepS.ldB rfl (Ent.at 2 rfl) kscalB_9_true rfl) ?_
              refine TO.sw rfl rfl rfl hb21 rfl rfl (StepS.cmpS kunderlying_9_some_string rfl rfl rfl) ?_
              refine TO.s rfl rfl rfl (StepS.pickT rfl hb21 rfl) ?_
              exact TO.up1 4 0 rfl rfl (by rw [hb21]; rfl) rfl
            · refine TO.skip rfl rfl rfl (skipF hb21) rfl rfl ?_
              refine TO.skip rfl rfl rfl (skipF hb21) rfl rfl ?_
              refine TO.skip rfl rfl rfl (skipF hb21) rfl rfl ?_
              refine TO.s rfl rfl rfl (StepS.pickF rfl hb21 rfl) ?_
              exact TO.up1 4 0 rfl rfl (by rw [hb21]; rfl) rfl
          refine TO.s rfl rfl rfl (StepS.assign rfl) ?_
          refine TO.code ?_
          refine TC.cond rfl (fun hc22 => ?_) (fun hc22 => ?_)
          · replace hm := cond_t hc22 hm
            refine TC.k ?_
            refine TC.region ?_
            refine TO.s rfl rfl rfl (StepS.build (cs := [I 3, .string ByteArray.empty, I 0, .slice none 0 0]) rfl (by kernel_rfl)) ?_
            refine TO.stB (us := [I 3, .string ByteArray.empty, I 0, .slice none 0 0]) 1 [I 3, .string ByteArray.empty, I 0, .slice none 0 0] rfl rfl rfl ksizeB_41_4_true rfl rfl rfl (by simp [Value.oneCell']) rfl ?_
            refine TO.code ?_
            cases hm
            refine TC.ret fun a w e s => ?_
            refine FRet.cell1 (P := Tryd.prog) (fn := Tryd.f29) e s rfl rfl (Ent.at 1 rfl) kaggB_41_4_true rfl ?_
            refine ⟨_, _, rfl, ⟨h0_1, (.slice none 0 0), rfl, rfl⟩, ?_⟩
            refine s.mono fun _ s => ?_
            replace s := Sat.nilS (e := 9) (sz := 1) (f := cS) s
            replace s := Sat.front 5 rfl s
            replace s := Sat.front 5 rfl s
            replace s := Sat.erase 3 s
            replace s := Sat.erase 3 s
            replace s := Sat.erase 3 s
            exact s
          · replace hm := cond_f hc22 hm
            refine TC.k ?_
            refine TC.region ?_
            refine TO.s rfl rfl rfl (StepS.move rfl) ?_
            refine TO.s rfl rfl rfl (StepS.not rfl) ?_
            refine TO.s rfl rfl rfl (StepS.assign rfl) ?_
            refine TO.code ?_
            refine TC.cond rfl (fun hc23 => ?_) (fun hc23 => ?_)
            · replace hm := cond_t hc23 hm
              refine TC.k ?_
              refine TC.region ?_
              refine TO.s rfl rfl rfl (StepS.build (cs := [I 5, .string ByteArray.empty, I 0, .slice none 0 0]) rfl (by kernel_rfl)) ?_
              refine TO.stB (us := [I 5, .string ByteArray.empty, I 0, .slice none 0 0]) 1 [I 5, .string ByteArray.empty, I 0, .slice none 0 0] rfl rfl rfl ksizeB_41_4_true rfl rfl rfl (by simp [Value.oneCell']) rfl ?_
              refine TO.code ?_
              cases hm
              refine TC.ret fun a w e s => ?_
              refine FRet.cell1 (P := Tryd.prog) (fn := Tryd.f29) e s rfl rfl (Ent.at 1 rfl) kaggB_41_4_true rfl ?_
              refine ⟨_, _, rfl, ⟨h0_1, (.slice none 0 0), rfl, rfl⟩, ?_⟩
              refine s.mono fun _ s => ?_
              replace s := Sat.nilS (e := 9) (sz := 1) (f := cS) s
              replace s := Sat.front 5 rfl s
              replace s := Sat.front 5 rfl s
              replace s := Sat.erase 3 s
              replace s := Sat.erase 3 s
              replace s := Sat.erase 3 s
              exact s
            · replace hm := cond_f hc23 hm
              refine TC.k ?_
              refine TC.region ?_
              refine TO.s rfl rfl rfl (StepS.fld rfl kfieldB_45_0_0_true) ?_
              refine TO.s rfl rfl rfl (StepS.ldB rfl (Ent.at 2 rfl) kscalB_3_true rfl) ?_
              refine TO.s rfl rfl rfl (StepS.cmp rfl rfl rfl) ?_
              refine TO.s rfl rfl rfl (StepS.assign rfl) ?_
              refine TO.code ?_
              refine TC.cond rfl (fun hc24 => ?_) (fun hc24 => ?_)
              · replace hm := cond_t hc24 hm
                refine TC.k ?_
                refine TC.region ?_
                refine TO.s rfl rfl rfl (StepS.fld rfl kfieldB_100_0_0_true) ?_
                refine TO.s rfl rfl rfl (StepS.ldB rfl (Ent.at 0 rfl) kscalB_9_true rfl) ?_
                refine TO.s rfl rfl rfl (StepS.fld rfl kfieldB_100_1_1_true) ?_
                refine TO.s rfl rfl rfl (StepS.ldB rfl (Ent.at 0 rfl) kscalB_3_true rfl) ?_
                refine TO.s rfl rfl rfl (StepS.build (cs := [I 0, .string (((a0 a1.2.1).getD (ByteArray.empty, 0)).1), I (((a0 a1.2.1).getD (ByteArray.empty, 0)).2), .slice none 0 0]) rfl (by kernel_rfl)) ?_
                refine TO.stB (us := [I 0, .string (((a0 a1.2.1).getD (ByteArray.empty, 0)).1), I (((a0 a1.2.1).getD (ByteArray.empty, 0)).2), .slice none 0 0]) 1 [I 0, .string (((a0 a1.2.1).getD (ByteArray.empty, 0)).1), I (((a0 a1.2.1).getD (ByteArray.empty, 0)).2), .slice none 0 0] rfl rfl rfl ksizeB_41_4_true rfl rfl rfl (by simp [Value.oneCell']) rfl ?_
                refine TO.code ?_
                cases hm
                refine TC.ret fun a w e s => ?_
                refine FRet.cell1 (P := Tryd.prog) (fn := Tryd.f29) e s rfl rfl (Ent.at 1 rfl) kaggB_41_4_true rfl ?_
                refine ⟨_, _, rfl, ⟨h0_1, (.slice none 0 0), rfl, rfl⟩, ?_⟩
                refine s.mono fun _ s => ?_
                replace s := Sat.nilS (e := 9) (sz := 1) (f := cS) s
                replace s := Sat.front 5 rfl s
                replace s := Sat.front 5 rfl s
                replace s := Sat.erase 3 s
                replace s := Sat.erase 3 s
                replace s := Sat.erase 3 s
                exact s
              · replace hm := cond_f hc24 hm
                refine TC.k ?_
                refine TC.region ?_
                refine TO.s rfl rfl rfl (StepS.fld rfl kfieldB_45_0_0_true) ?_
                refine TO.s rfl rfl rfl (StepS.ldB rfl (Ent.at 2 rfl) kscalB_3_true rfl) ?_
                refine TO.s rfl rfl rfl (StepS.cmp rfl rfl rfl) ?_
                refine TO.s rfl rfl rfl (StepS.assign rfl) ?_
                refine TO.code ?_
                refine TC.cond rfl (fun hc25 => ?_) (fun hc25 => ?_)
                · replace hm := cond_t hc25 hm
                  refine TC.k ?_
                  refine TC.region_any (Bx bq6_10_1 100 [.string (((a0 a1.2.1).getD (ByteArray.empty, 0)).1), I (((a0 a1.2.1).getD (ByteArray.empty, 0)).2)] :: Bx b5 41 [I 0, .string ByteArray.empty, I 0, .slice none 0 0] :: Bx b4 45 [I a1.1, .string a1.2.1, .string a1.2.2.1, I a1.2.2.2] :: L) 7 8 kfollows_mixedOrders_true rfl ?_
                  refine TA.takeW 0 rfl rfl rfl rfl (StepS.fld rfl kfieldB_100_1_1_true) (by kernel_rfl) (by kernel_rfl) (by kernel_rfl) rfl (.inr (fun _ s => Sat.by [2, 2, 2] 3 2 (by kernel_rfl) s)) ?_
                  refine TA.take 1 rfl rfl rfl rfl (StepS.ldB rfl (Ent.at 0 rfl) kscalB_3_true rfl) (by kernel_rfl) (by kernel_rfl) (by kernel_rfl) (by kernel_rfl) (by kernel_rfl) (fun _ s => Sat.by [2, 2, 2] 3 2 (by kernel_rfl) s) ?_
                  refine TA.takeW 2 rfl rfl rfl rfl (StepS.move rfl) (by kernel_rfl) (by kernel_rfl) (by kernel_rfl) rfl (.inr (fun _ s => Sat.by [2, 2, 2] 3 2 (by kernel_rfl) s)) ?_
                  refine TA.takeW 3 rfl rfl rfl rfl (StepS.fld rfl kfieldB_45_1_1_true) (by kernel_rfl) (by kernel_rfl) (by kernel_rfl) rfl (.inr (fun _ s => Sat.by [2, 2, 2] 3 2 (by kernel_rfl) s)) ?_
                  refine TA.take 4 rfl rfl rfl rfl (StepS.ldB rfl (Ent.at 2 rfl) kscalB_9_true rfl) (by kernel_rfl) (by kernel_rfl) (by kernel_rfl) (by kernel_rfl) (by kernel_rfl) (fun _ s => Sat.by [2, 2, 2] 3 2 (by kernel_rfl) s) ?_
                  refine TA.all1 (i := 5) (by kernel_rfl) ?_
                  refine TB.of rfl ?_
                  refine TO.ghost (fun _ s => Sat.front 4 rfl s) ?_
                  refine TO.ghost (fun _ s => Sat.front 4 rfl s) ?_
                  obtain ⟨⟨rq26_5_1, rq26_5_2⟩, hcq26_5_3, hm⟩ := bind_some hm
                  refine TO.callO kcallB_37_true rfl rfl rfl (fun _ st => C37 (a0 := a0)  hcq26_5_3 st) ?_
                  rintro vq26_5_6 _ ⟨rq26_5_4, _, rfl, rfl⟩
                  refine TA.back (.inr (fun _ s => Sat.by [5, 5, 5] 3 3 (by kernel_rfl) s)) ?_
                  refine TA.asL (L' := (Bx b0_ 103 [.map (some rq26_5_4)] :: MF (fun k : ByteArray => .string k) (fun x : ByteArray × Int => .agg (cTsi x).toArray) rq26_5_4 (rq26_5_2) :: OwnS 9 1 vq26_5_6 (rq26_5_1.map cS) :: Bx bq6_10_1 100 [.string (((a0 a1.2.1).getD (ByteArray.empty, 0)).1), I (((a0 a1.2.1).getD (ByteArray.empty, 0)).2)] :: Bx b5 41 [I 0, .string ByteArray.empty, I 0, .slice none 0 0] :: Bx b4 45 [I a1.1, .string a1.2.1, .string a1.2.2.1, I a1.2.2.2] :: L)) (listed' := #[true, true, true, true, true, true, false, false]) (by kernel_rfl) (by kernel_rfl) ?_
                  refine TA.all1 (i := 6) (by kernel_rfl) ?_
                  refine TB.of rfl ?_
                  refine TO.pure (fun _ s => Rd.one (OwnS.rd (Ent.at 2 rfl)) s) fun ocq26_6_1 => ?_
                  refine TO.s rfl rfl rfl (StepS.buildS (us := [(2, I (((a0 a1.2.1).getD (ByteArray.empty, 0)).2)), (3, .agg #[vq26_5_6])]) (cs := [I 0, .string ByteArray.empty, I (((a0 a1.2.1).getD (ByteArray.empty, 0)).2), vq26_5_6]) rfl (by simp only [List.map_cons, List.map_nil, ocq26_6_1.2] <;> rfl) (by kernel_rfl)) ?_
                  refine TA.back (.inr (fun _ s => Sat.by [5, 5, 5] 3 3 (by kernel_rfl) s)) ?_
                  refine TA.all1 (i := 7) (by kernel_rfl) ?_
                  refine TB.of rfl ?_
                  refine TO.pure (fun _ s => Rd.one (OwnS.rd (Ent.at 2 rfl)) s) fun ocq26_7_1 => ?_
                  refine TO.stB (us := [I 0, .string ByteArray.empty, I (((a0 a1.2.1).getD (ByteArray.empty, 0)).2), vq26_5_6]) 4 [I 0, .string ByteArray.empty, I (((a0 a1.2.1).getD (ByteArray.empty, 0)).2), vq26_5_6] rfl rfl rfl ksizeB_41_4_true rfl rfl rfl (by intro u hu; simp only [List.mem_cons, List.not_mem_nil, or_false] at hu; rcases hu with rfl | rfl | rfl | rfl <;> first | exact ocq26_7_1.1 | rfl) rfl ?_
                  refine TA.back (.inl (by kernel_rfl)) ?_
                  refine TA.asL (L' := (Bx b0_ 103 [.map (some rq26_5_4)] :: MF (fun k : ByteArray => .string k) (fun x : ByteArray × Int => .agg (cTsi x).toArray) rq26_5_4 (rq26_5_2) :: OwnS 9 1 vq26_5_6 (rq26_5_1.map cS) :: Bx bq6_10_1 100 [.string (((a0 a1.2.1).getD (ByteArray.empty, 0)).1), I (((a0 a1.2.1).getD (ByteArray.empty, 0)).2)] :: Bx b5 41 [I 0, .string ByteArray.empty, I (((a0 a1.2.1).getD (ByteArray.empty, 0)).2), vq26_5_6] :: Bx b4 45 [I a1.1, .string a1.2.1, .string a1.2.2.1, I a1.2.2.2] :: L)) (listed' := #[true, true, true, true, true, true, true, true]) (by kernel_rfl) (by kernel_rfl) ?_
                  refine TA.code (by kernel_rfl) ?_
                  cases hm
                  refine TC.ret fun a w e s => ?_
                  refine FRet.cell1 (P := Tryd.prog) (fn := Tryd.f29) e s rfl rfl (Ent.at 4 rfl) kaggB_41_4_true rfl ?_
                  refine ⟨_, _, rfl, ⟨rq26_5_4, (vq26_5_6), rfl, rfl⟩, ?_⟩
                  refine s.mono fun _ s => ?_
                  replace s := Sat.front 2 rfl s
                  replace s := Sat.front 2 rfl s
                  replace s := Sat.front 2 rfl s
                  replace s := Sat.erase 3 s
                  replace s := Sat.erase 3 s
                  replace s := Sat.erase 3 s
                  exact s
                · replace hm := cond_f hc25 hm
                  refine TC.k ?_
                  refine TC.region ?_
                  refine TO.s rfl rfl rfl (StepS.fld rfl kfieldB_45_3_3_true) ?_
                  refine TO.s rfl rfl rfl (StepS.ldB rfl (Ent.at 2 rfl) kscalB_3_true rfl) ?_
                  refine TO.s rfl rfl rfl (StepS.cmp rfl rfl rfl) ?_
                  refine TO.s rfl rfl rfl (StepS.move rfl) ?_
                  refine TO.mid1 6 103 (.bool ((decide (a1.2.2.2 ≥ 0)) && (a1.2.2.2 != (((a0 a1.2.1).getD (ByteArray.empty, 0)).2)))) ?_ ?_
                  · refine bcase ((decide (a1.2.2.2 ≥ 0))) (fun hb27 => ?_) (fun hb27 => ?_)
                    · refine TO.sw rfl rfl rfl hb27 rfl rfl (StepS.fld rfl kfieldB_45_3_3_true) ?_
                      refine TO.sw rfl rfl rfl hb27 rfl rfl (StepS.ldB rfl (Ent.at 2 rfl) kscalB_3_true rfl) ?_
                      refine TO.sw rfl rfl rfl hb27 rfl rfl (StepS.fld rfl kfieldB_100_1_1_true) ?_
                      refine TO.sw rfl rfl rfl hb27 rfl rfl (StepS.ldB rfl (Ent.at 0 rfl) kscalB_3_true rfl) ?_
                      refine TO.sw rfl rfl rfl hb27 rfl rfl (StepS.cmp rfl rfl rfl) ?_
                      refine TO.s rfl rfl rfl (StepS.pickT rfl hb27 rfl) ?_
                      exact TO.up1 6 0 rfl rfl (by rw [hb27]; rfl) rfl
                    · refine TO.skip rfl rfl rfl (skipF hb27) rfl rfl ?_
                      refine TO.skip rfl rfl rfl (skipF hb27) rfl rfl ?_
                      refine TO.skip rfl rfl rfl (skipF hb27) rfl rfl ?_
                      refine TO.skip rfl rfl rfl (skipF hb27) rfl rfl ?_
                      refine TO.skip rfl rfl rfl (skipF hb27) rfl rfl ?_
                      refine TO.s rfl rfl rfl (StepS.pickF rfl hb27 rfl) ?_
                      exact TO.up1 6 0 rfl rfl (by rw [hb27]; rfl) rfl
                  refine TO.s rfl rfl rfl (StepS.assign rfl) ?_
                  refine TO.code ?_
                  refine TC.cond rfl (fun hc28 => ?_) (fun hc28 => ?_)
                  · replace hm := cond_t hc28 hm
                    refine TC.k ?_
                    refine TC.region ?_
                    refine TO.s rfl rfl rfl (StepS.build (cs := [I 8, .string ByteArray.empty, I 0, .slice none 0 0]) rfl (by kernel_rfl)) ?_
                    refine TO.stB (us := [I 8, .string ByteArray.empty, I 0, .slice none 0 0]) 1 [I 8, .string ByteArray.empty, I 0, .slice none 0 0] rfl rfl rfl ksizeB_41_4_true rfl rfl rfl (by simp [Value.oneCell']) rfl ?_
                    refine TO.code ?_
                    cases hm
                    refine TC.ret fun a w e s => ?_
                    refine FRet.cell1 (P := Tryd.prog) (fn := Tryd.f29) e s rfl rfl (Ent.at 1 rfl) kaggB_41_4_true rfl ?_
                    refine ⟨_, _, rfl, ⟨h0_1, (.slice none 0 0), rfl, rfl⟩, ?_⟩
                    refine s.mono fun _ s => ?_
                    replace s := Sat.nilS (e := 9) (sz := 1) (f := cS) s
                    replace s := Sat.front 5 rfl s
                    replace s := Sat.front 5 rfl s
                    replace s := Sat.erase 3 s
                    replace s := Sat.erase 3 s
                    replace s := Sat.erase 3 s
                    exact s
                  · replace hm := cond_f hc28 hm
                    refine TC.k ?_
                    refine TC.region ?_
                    refine TO.s rfl rfl rfl (StepS.fld rfl kfieldB_45_0_0_true) ?_
                    refine TO.s rfl rfl rfl (StepS.ldB rfl (Ent.at 2 rfl) kscalB_3_true rfl) ?_
                    refine TO.s rfl rfl rfl (StepS.cmp rfl rfl rfl) ?_
                    refine TO.s rfl rfl rfl (StepS.assign rfl) ?_
                    refine TO.code ?_
                    refine TC.cond rfl (fun hc29 => ?_) (fun hc29 => ?_)
                    · replace hm := cond_t hc29 hm
                      refine TC.k ?_
                      refine TC.region_tail 12 kfollows_mixedOrders_true (by kernel_rfl) ?_
                      refine TS.s rfl rfl rfl (StepS.move rfl) ?_
                      refine TS.s rfl rfl rfl (StepS.nilc rfl) ?_
                      refine TS.s rfl rfl rfl (StepS.fld rfl kfieldB_103_0_0_true) ?_
                      refine TS.s rfl rfl rfl (StepS.ldB rfl (Ent.at 3 rfl) kscalB_101_true rfl) ?_
                      refine TS.s rfl rfl rfl (StepS.fld rfl kfieldB_45_1_1_true) ?_
                      refine TS.s rfl rfl rfl (StepS.ldB rfl (Ent.at 2 rfl) kscalB_9_true rfl) ?_
                      refine TS.s rfl rfl rfl (StepS.fld rfl kfieldB_45_2_2_true) ?_
                      refine TS.s rfl rfl rfl (StepS.ldB rfl (Ent.at 2 rfl) kscalB_9_true rfl) ?_
                      refine TS.s rfl rfl rfl (StepS.fld rfl kfieldB_100_1_1_true) ?_
                      refine TS.s rfl rfl rfl (StepS.ldB rfl (Ent.at 0 rfl) kscalB_3_true rfl) ?_
                      refine TS.s rfl rfl rfl (StepS.ari rfl rfl rfl) ?_
                      refine TS.s rfl rfl rfl (StepS.build (cs := [.string a1.2.2.1, I (w64 ((((a0 a1.2.1).getD (ByteArray.empty, 0)).2) + 1))]) rfl (by kernel_rfl)) ?_
                      refine TS.nil ?_
                      refine TO.at ?_
                      refine TO.msetF (k := a1.2.1) (v := (a1.2.2.1, w64 ((((a0 a1.2.1).getD (ByteArray.empty, 0)).2) + 1))) 4 kmapGB_101_9_100_true (KeyOk.str kunderlying_9_some_string) rfl rfl rfl rfl ?_
                      refine TO.code ?_
                      refine TC.k ?_
                      refine TC.region ?_
                      refine TO.s rfl rfl rfl (StepS.fld rfl kfieldB_100_1_1_true) ?_
                      refine TO.s rfl rfl rfl (StepS.ldB rfl (Ent.at 0 rfl) kscalB_3_true rfl) ?_
                      refine TO.s rfl rfl rfl (StepS.ari rfl rfl rfl) ?_
                      refine TO.s rfl rfl rfl (StepS.build (cs := [I 0, .string ByteArray.empty, I (w64 ((((a0 a1.2.1).getD (ByteArray.empty, 0)).2) + 1)), .slice none 0 0]) rfl (by kernel_rfl)) ?_
                      refine TO.stB (us := [I 0, .string ByteArray.empty, I (w64 ((((a0 a1.2.1).getD (ByteArray.empty, 0)).2) + 1)), .slice none 0 0]) 1 [I 0, .string ByteArray.empty, I (w64 ((((a0 a1.2.1).getD (ByteArray.empty, 0)).2) + 1)), .slice none 0 0] rfl rfl rfl ksizeB_41_4_true rfl rfl rfl (by simp [Value.oneCell']) rfl ?_
                      refine TO.code ?_
                      cases hm
                      refine TC.ret fun a w e s => ?_
                      refine FRet.cell1 (P := Tryd.prog) (fn := Tryd.f29) e s rfl rfl (Ent.at 1 rfl) kaggB_41_4_true rfl ?_
                      refine ⟨_, _, rfl, ⟨h0_1, (.slice none 0 0), rfl, rfl⟩, ?_⟩
                      refine s.mono fun _ s => ?_
                      replace s := Sat.nilS (e := 9) (sz := 1) (f := cS) s
                      replace s := Sat.front 5 rfl s
                      replace s := Sat.front 5 rfl s
                      replace s := Sat.erase 3 s
                      replace s := Sat.erase 3 s
                      replace s := Sat.erase 3 s
                      exact s
                    · replace hm := cond_f hc29 hm
                      refine TC.k ?_
                      refine TC.region ?_
                      refine TO.s rfl rfl rfl (StepS.move rfl) ?_
                      refine TO.s rfl rfl rfl (StepS.fld rfl kfieldB_45_1_1_true) ?_
                      refine TO.s rfl rfl rfl (StepS.ldB rfl (Ent.at 2 rfl) kscalB_9_true rfl) ?_
                      refine TO.ghost (fun _ s => Sat.front 4 rfl s) ?_
                      refine TO.ghost (fun _ s => Sat.front 4 rfl s) ?_
                      obtain ⟨⟨r30, r31⟩, hc32, hm⟩ := bind_some hm
                      refine TO.callO kcallB_37_true rfl rfl rfl (fun _ st => C37 (a0 := a0)  hc32 st) ?_
                      rintro v35 _ ⟨r33, _, rfl, rfl⟩
                      refine TO.s rfl rfl rfl (StepS.lenm rfl (OwnS.rd (Ent.at 2 rfl)) ksliceB_39_9_1_true rfl) ?_
                      refine TO.s rfl rfl rfl (StepS.cmp rfl rfl rfl) ?_
                      refine TO.s rfl rfl rfl (StepS.assign rfl) ?_
                      refine TO.code ?_
                      refine TC.cond rfl (fun hc37 => ?_) (fun hc37 => ?_)
                      · replace hm := cond_t hc37 hm
                        refine TC.k ?_
                        refine TC.region ?_
                        refine TO.s rfl rfl rfl (StepS.build (cs := [I 7, .string ByteArray.empty, I 0, .slice none 0 0]) rfl (by kernel_rfl)) ?_
                        refine TO.stB (us := [I 7, .string ByteArray.empty, I 0, .slice none 0 0]) 4 [I 7, .string ByteArray.empty, I 0, .slice none 0 0] rfl rfl rfl ksizeB_41_4_true rfl rfl rfl (by simp [Value.oneCell']) rfl ?_
                        refine TO.code ?_
                        cases hm
                        refine TC.ret fun a w e s => ?_
                        refine FRet.cell1 (P := Tryd.prog) (fn := Tryd.f29) e s rfl rfl (Ent.at 4 rfl) kaggB_41_4_true rfl ?_
                        refine ⟨_, _, rfl, ⟨r33, (.slice none 0 0), rfl, rfl⟩, ?_⟩
                        refine s.mono fun _ s => ?_
                        replace s := Sat.nilS (e := 9) (sz := 1) (f := cS) s
                        replace s := Sat.front 2 rfl s
                        replace s := Sat.front 2 rfl s
                        replace s := Sat.erase 3 s
                        replace s := Sat.erase 3 s
                        replace s := Sat.erase 3 s
                        replace s := Sat.erase 3 s
                        exact s
                      · replace hm := cond_f hc37 hm
                        refine TC.skipk ?_
                        refine TC.k ?_
                        refine TC.region_tail 6 kfollows_mixedOrders_true (by kernel_rfl) ?_
                        refine TS.s rfl rfl rfl (StepS.move rfl) ?_
                        refine TS.s rfl rfl rfl (StepS.nilc rfl) ?_
                        refine TS.s rfl rfl rfl (StepS.fld rfl kfieldB_103_0_0_true) ?_
                        refine TS.s rfl rfl rfl (StepS.ldB rfl (Ent.at 0 rfl) kscalB_101_true rfl) ?_
                        refine TS.s rfl rfl rfl (StepS.fld rfl kfieldB_45_1_1_true) ?_
                        refine TS.s rfl rfl rfl (StepS.ldB rfl (Ent.at 5 rfl) kscalB_9_true rfl) ?_
                        refine TS.nil ?_
                        refine TO.at ?_
                        refine TO.mdelF0 (k := a1.2.1) 1 rfl kmapGB_101_9_100_true (KeyOk.str kunderlying_9_some_string) rfl rfl rfl ?_
                        refine TO.code ?_
                        refine TC.k ?_
                        refine TC.region ?_
                        refine TO.s rfl rfl rfl (StepS.build (cs := [I 0, .string ByteArray.empty, I 0, .slice none 0 0]) rfl (by kernel_rfl)) ?_
                        refine TO.stB (us := [I 0, .string ByteArray.empty, I 0, .slice none 0 0]) 4 [I 0, .string ByteArray.empty, I 0, .slice none 0 0] rfl rfl rfl ksizeB_41_4_true rfl rfl rfl (by simp [Value.oneCell']) rfl ?_
                        refine TO.code ?_
                        cases hm
                        refine TC.ret fun a w e s => ?_
                        refine FRet.cell1 (P := Tryd.prog) (fn := Tryd.f29) e s rfl rfl (Ent.at 4 rfl) kaggB_41_4_true rfl ?_
                        refine ⟨_, _, rfl, ⟨r33, (.slice none 0 0), rfl, rfl⟩, ?_⟩
                        refine s.mono fun _ s => ?_
                        replace s := Sat.nilS (e := 9) (sz := 1) (f := cS) s
                        replace s := Sat.front 2 rfl s
                        replace s := Sat.front 2 rfl s
                        replace s := Sat.erase 3 s
                        replace s := Sat.erase 3 s
                        replace s := Sat.erase 3 s
                        replace s := Sat.erase 3 s
                        exact s

set_option maxRecDepth 100000 in
theorem C15 {B : World} {L : List HP} {a0 : List (Int × ByteArray × ByteArray × Int)} {h0 : Value} {r0 : List (Int × ByteArray × Int × List ByteArray)} {r1 : Int} (e0 : Ent L (Rd 4 h0 (a0.map cTissi))) (hm : F15 a0 = some (r0, r1)) {w : World} (st : St B L w) : Calls Tryd.prog 15 #[h0] w (fun e w' => ∃ v M, e = .returned v ∧ (∃ (qv1 : Value) (qhs2 : List (List Value)), v = .tuple #[qv1, I r1] ∧ M = (SN 41 4 nT41 qv1 qhs2 (r0) :: L)) ∧ St B M w') := by
  refine calls_of (N := 26) (L := L) (args := [h0]) Tryd.func15 rfl rfl rfl ?_ st
  dsimp only [F15] at hm
  refine TC.k ?_
  refine TC.region ?_
  refine TO.s rfl rfl rfl (StepS.assign rfl) ?_
  refine TO.s rfl rfl rfl (StepS.assign rfl) ?_
  refine TO.code ?_
  refine TC.k ?_
  refine TC.k ?_
  refine TC.region ?_
  refine TO.s rfl rfl rfl (StepS.move rfl) ?_
  refine TO.s rfl rfl rfl (StepS.lenm rfl e0 ksliceB_34_45_4_true rfl) ?_
  refine TO.s rfl rfl rfl (StepS.cmp rfl rfl rfl) ?_
  refine TO.code ?_
  refine TC.cond rfl (fun hc2 => ?_) (fun hc2 => ?_)
  · replace hm := cond_t hc2 hm
    refine TC.k ?_
    refine TC.region ?_
    refine TO.s rfl rfl rfl (StepS.assign rfl) ?_
    refine TO.s rfl rfl rfl (StepS.assign rfl) ?_
    refine TO.code ?_
    cases hm
    refine TC.ret fun a w e s => ?_
    refine FRet.mk2 (P := Tryd.prog) (fn := Tryd.f15) (t := 2) (u := 3) e rfl rfl rfl ?_
    refine ⟨_, _, rfl, ⟨(.slice none 0 0), ([]), rfl, rfl⟩, ?_⟩
    refine s.mono fun _ s => ?_
    replace s := Sat.nilSN (e := 41) (sz := 4) (T := nT41) s
    exact s
  · replace hm := cond_f hc2 hm
    refine TC.skipk ?_
    refine TC.k ?_
    refine TC.region ?_
    obtain ⟨r3, hc4, hm⟩ := bind_some hm
    refine TO.callO kcallB_26_true rfl rfl rfl (fun _ st => C26  hc4 st) ?_
    rintro _ _ ⟨b7, r5, rfl, rfl⟩
    refine TO.s rfl rfl rfl (StepS.assign rfl) ?_
    refine TO.code ?_
    refine TC.k ?_
    refine TC.region ?_
    refine TO.s rfl rfl rfl (StepS.assign rfl) ?_
    refine TO.code ?_
    refine TC.k ?_
    refine TC.k ?_
    refine TC.region ?_
    refine TO.s rfl rfl rfl (StepS.move rfl) ?_
    refine TO.s rfl rfl rfl (StepS.lenm rfl e0.tl.tl ksliceB_34_45_4_true rfl) ?_
    refine TO.s rfl rfl rfl (StepS.move rfl) ?_
    refine TO.code ?_
    obtain ⟨o31, hw32, hm⟩ := bind_some hm
    refine TC.loop hw32 (fun (y11, y14, x15) => fun a w => ∃ v8 : Value, ∃ hs9 : List (List Value), ∃ r13 : Nat, Mid 26 B [(4, .pointer (some ⟨b7, 0, none⟩)), (5, v8), (12, h0), (13, I (a0.length : Int)), (14, I x15)] (SN 41 4 nT41 v8 hs9 (y11) :: MF (fun k : ByteArray => .string k) (fun x : ByteArray × Int => .agg (cTsi x).toArray) r13 (y14) :: Bx b7 103 [.map (some r13)] :: L) a w) (fun (y27, y30) => fun a w => ∃ v24 : Value, ∃ hs25 : List (List Value), ∃ r29 : Nat, Mid 26 B [(5, v24)] (SN 41 4 nT41 v24 hs25 (y27) :: MF (fun k : ByteArray => .string k) (fun x : ByteArray × Int => .agg (cTsi x).toArray) r29 (y30) :: Bx b7 103 [.map (some r29)] :: L) a w) (fun (_ : Unit) _ _ => False) ?_ ?_ ?_ ?_
    · rintro ⟨y11, y14, x15⟩ o31r hb33 a w ⟨v8, hs9, r13, he, hs⟩
      dsimp only [F15_L0] at hb33
      refine TC.use ?_ he hs
      refine TC.k ?_
      refine TC.region ?_
      refine TO.s rfl rfl rfl (StepS.cmp rfl rfl rfl) ?_
      refine TO.code ?_
      refine TC.k ?_
      refine TC.cond rfl (fun hc34 => ?_) (fun hc34 => ?_)
      · replace hb33 := cond_t hc34 hb33
        refine TC.skipk ?_
        refine TC.k ?_
        refine TC.block ?_
        refine TC.k ?_
        refine TC.region ?_
        obtain ⟨x35, hx36, hb33⟩ := bind_some hb33
        refine TO.s rfl rfl rfl (StepS.idx rfl rfl e0.tl.tl.tl ksliceB_34_45_4_true (idx_spec hx36).1 (idxm_lt hx36)) ?_
        refine TO.s rfl rfl rfl (StepS.ldE rfl e0.tl.tl.tl kaggB_45_4_true rfl (idxm hx36)) ?_
        refine TO.alloc kinfo_45_bind_zero_some_agg_I_0_string_ByteArray_empty_string_ByteArray_empty_I_0 rfl rfl fun b37 => ?_
        refine TO.stB (us := [I x35.1, .string x35.2.1, .string x35.2.2.1, I x35.2.2.2]) 0 [I x35.1, .string x35.2.1, .string x35.2.2.1, I x35.2.2.2] rfl rfl rfl ksizeB_45_4_true rfl rfl rfl (by simp [Value.oneCell']) rfl ?_
        refine TO.code ?_
        refine TC.region ?_
        refine TO.s rfl rfl rfl (StepS.move rfl) ?_
        refine TO.s rfl rfl rfl (StepS.move rfl) ?_
        refine TO.s rfl rfl rfl (StepS.ldBA rfl (Ent.at 0 rfl) kaggB_45_4_true rfl rfl) ?_
        refine TO.ghost (fun _ s => Sat.front 2 rfl s) ?_
        refine TO.ghost (fun _ s => Sat.front 3 rfl s) ?_
        obtain ⟨⟨r38, r39⟩, hc40, hb33⟩ := bind_some hb33
        refine TO.callO kcallB_29_true rfl rfl rfl (fun _ st => C29 (a0 := y14)  hc40 st) ?_
        rintro _ _ ⟨r41, v43, rfl, rfl⟩
        refine TO.litS (f := fun (_ : Unit) => [I r38.1, .string r38.2.1, I r38.2.2.1, v43]) [()] kelemB_23_41_4_56_true kinfo_41_bind_zero_some_agg_I_0_string_ByteArray_empty_I_0_slice_none_0_0 rfl rfl (fun _ => rfl) rfl rfl (by kernel_rfl) rfl fun v45 => ?_
        refine TO.pure (fun _ s => Rd.one (OwnS.rd (Ent.at 3 rfl)) s) fun oc47 => ?_
        refine TO.ghost (fun _ s => Sat.front 5 rfl s) ?_
        refine TO.ghost (fun _ s => Sat.front 4 rfl s) ?_
        obtain ⟨y48, hk49, hb33⟩ := bind_some hb33
        refine TO.appN (T := nT41) (z := (r38.1, r38.2.1, r38.2.2.1, r38.2.2.2)) [v43] rfl kelemB_23_41_4_56_true (by decide) rfl rfl (OwnS.rd (Ent.at 0 rfl)) hk49 (by intro u hu; have hu : u ∈ [I r38.1, .string r38.2.1, I r38.2.2.1, v43] := hu; simp only [List.mem_cons, List.not_mem_nil, or_false] at hu; rcases hu with rfl | rfl | rfl | rfl <;> first | rfl | exact oc47.1) rfl rfl fun v50 hs51 => ?_
        refine TO.ghost (fun _ s => Sat.erase 1 s) ?_
        refine TO.s rfl rfl rfl (StepS.assign rfl) ?_
        refine TO.code ?_
        refine TC.region ?_
        refine TO.s rfl rfl rfl (StepS.ari rfl rfl rfl) ?_
        refine TO.s rfl rfl rfl (StepS.move rfl) ?_
        cases hb33
        refine TO.nil fun a w e s => ?_
        exact ⟨v50, hs51, r41, e.sub (lk_of_allIn ⟨rfl, rfl, rfl, rfl, rfl, trivial⟩), s.mono fun _ s => (by exact Sat.by [1, 2, 2] 3 1 (by kernel_rfl) s)⟩
      · replace hb33 := cond_f hc34 hb33
        cases hb33
        refine TC.exit rfl fun a w e s => ?_
        exact ⟨v8, hs9, r13, e.sub (lk_of_allIn ⟨rfl, trivial⟩), s⟩
    · exact fun a w e s => ⟨.slice none 0 0, [], r5, e.sub (lk_of_allIn ⟨rfl, rfl, rfl, rfl, rfl, trivial⟩), s.mono fun _ s => (by replace s := Sat.nilSN (e := 41) (sz := 4) (T := nT41) s; exact Sat.by [1, 2, 2] 3 0 (by kernel_rfl) s)⟩
    · rintro ⟨y27, y30⟩ rfl a w ⟨v24, hs25, r29, he, hs⟩
      dsimp only [Ctl.on] at hm
      refine TC.use ?_ he hs
      refine TC.k ?_
      refine TC.region ?_
      refine TO.s rfl rfl rfl (StepS.move rfl) ?_
      refine TO.s rfl rfl rfl (StepS.assign rfl) ?_
      refine TO.s rfl rfl rfl (StepS.assign rfl) ?_
      refine TO.code ?_
      cases hm
      refine TC.ret fun a w e s => ?_
      refine FRet.mk2 (P := Tryd.prog) (fn := Tryd.f15) (t := 2) (u := 3) e rfl rfl rfl ?_
      refine ⟨_, _, rfl, ⟨(v24), (hs25), rfl, rfl⟩, ?_⟩
      refine s.mono fun _ s => ?_
      replace s := Sat.front 0 rfl s
      replace s := Sat.erase 1 s
      replace s := Sat.erase 1 s
      exact s
    · rintro r rfl
      exact fun a w h => h.elim

set_option maxRecDepth 100000 in
theorem C20 {B : World} {L : List HP} {r0 : List (ByteArray × ByteArray × Int)} (hm : F20 = some r0) {w : World} (st : St B L w) : Calls Tryd.prog 20 #[] w (fun e w' => ∃ v M, e = .returned v ∧ (∃ (qv1 : Value), v = qv1 ∧ M = (OwnS 84 3 qv1 (r0.map cTssi) :: L)) ∧ St B M w') := by
  refine calls_of (N := 3) (L := L) (args := []) Tryd.func20 rfl rfl rfl ?_ st
  dsimp only [F20] at hm
  refine TC.k ?_
  refine TC.region ?_
  refine TO.s rfl rfl rfl (StepS.assign rfl) ?_
  refine TO.code ?_
  refine TC.k ?_
  refine TC.region ?_
  refine TO.s rfl rfl rfl (StepS.build (cs := [.string (ByteArray.mk #[47]), .string ByteArray.empty, I 0]) rfl (by kernel_rfl)) ?_
  refine TO.litS (f := cTssi) ([((ByteArray.mk #[47]), ByteArray.empty, 0)] : List (ByteArray × ByteArray × Int)) kelemB_51_84_3_40_true kinfo_84_bind_zero_some_agg_string_ByteArray_empty_string_ByteArray_empty_I_0 rfl rfl (fun _ => rfl) rfl rfl (by kernel_rfl) rfl fun v2 => ?_
  refine TO.s rfl rfl rfl (StepS.assign rfl) ?_
  refine TO.code ?_
  cases hm
  refine TC.ret fun a w e s => ?_
  refine FRet.mk1 (P := Tryd.prog) (fn := Tryd.f20) (t := 0) e rfl rfl ?_
  refine ⟨_, _, rfl, ⟨(v2), rfl, rfl⟩, ?_⟩
  refine s.mono fun _ s => ?_
  replace s := Sat.front 0 rfl s
  exact s

set_option maxRecDepth 100000 in
theorem C38 {B : World} {L : List HP} {a0 : Int} {a1 : List (ByteArray × ByteArray × Int)} {b1_ : Nat} {h1 : Value} {r0 : Int × ByteArray × Int × List ByteArray} (g1 : Ent L (Bx b1_ 51 [h1])) (e1 : Ent L (Rd 3 h1 (a1.map cTssi))) (hm : F38 a0 a1 = some r0) {w : World} (st : St B L w) : Calls Tryd.prog 38 #[I a0, .pointer (some ⟨b1_, 0, none⟩)] w (fun e w' => ∃ v M, e = .returned v ∧ (∃ (qv1 : Value), v = .tuple #[h1, .agg #[I r0.1, .string r0.2.1, I r0.2.2.1, qv1]] ∧ M = (OwnS 9 1 qv1 (r0.2.2.2.map cS) :: L)) ∧ St B M w') := by
  refine calls_of (N := 8) (L := L) (args := [I a0, .pointer (some ⟨b1_, 0, none⟩)]) Tryd.func38 rfl rfl rfl ?_ st
  dsimp only [F38] at hm
  refine TC.k ?_
  refine TC.region ?_
  refine TO.s rfl rfl rfl (StepS.assign rfl) ?_
  refine TO.alloc kinfo_41_bind_zero_some_agg_I_0_string_ByteArray_empty_I_0_slice_none_0_0 rfl rfl fun b2 => ?_
  refine TO.code ?_
  refine TC.k ?_
  refine TC.region ?_
  refine TO.s rfl rfl rfl (StepS.ldB rfl g1.tl kscalB_51_true rfl) ?_
  refine TO.s rfl rfl rfl (StepS.move rfl) ?_
  refine TO.s rfl rfl rfl (StepS.build (cs := [I a0, .string ByteArray.empty, I 0, .slice none 0 0]) rfl (by kernel_rfl)) ?_
  refine TO.s rfl rfl rfl (StepS.assign rfl) ?_
  refine TO.stB (us := [I a0, .string ByteArray.empty, I 0, .slice none 0 0]) 0 [I a0, .string ByteArray.empty, I 0, .slice none 0 0] rfl rfl rfl ksizeB_41_4_true rfl rfl rfl (by simp [Value.oneCell']) rfl ?_
  refine TO.code ?_
  cases hm
  refine TC.ret fun a w e s => ?_
  refine FRet.cell2r (P := Tryd.prog) (fn := Tryd.f38) e s rfl rfl rfl (Ent.at 0 rfl) kaggB_41_4_true rfl ?_
  refine ⟨_, _, rfl, ⟨(.slice none 0 0), rfl, rfl⟩, ?_⟩
  refine s.mono fun _ s => ?_
  replace s := Sat.nilS (e := 9) (sz := 1) (f := cS) s
  replace s := Sat.erase 1 s
  exact s

set_option maxRecDepth 100000 in
theorem C39 {B : World} {L : List HP} {a0 : ByteArray} {r0 : Bool} (hm : F39 a0 = some r0) {w : World} (st : St B L w) : Calls Tryd.prog 39 #[.string a0] w (fun e w' => (e = .returned (.bool r0) ∧ St B (L) w')) := by
  refine calls_of (N := 50) (L := L) (args := [.string a0]) Tryd.func39 rfl rfl rfl ?_ st
  dsimp only [F39] at hm
  refine TC.k ?_
  refine TC.region ?_
  refine TO.s rfl rfl rfl (StepS.assign rfl) ?_
  refine TO.code ?_
  refine TC.k ?_
  refine TC.k ?_
  refine TC.region ?_
  refine TO.s rfl rfl rfl (StepS.move rfl) ?_
  refine TO.s rfl rfl rfl (StepS.cmpS kunderlying_9_some_string rfl rfl rfl) ?_
  refine TO.code ?_
  refine TC.cond rfl (fun hc1 => ?_) (fun hc1 => ?_)
  · replace hm := cond_t hc1 hm
    refine TC.k ?_
    refine TC.region ?_
    refine TO.s rfl rfl rfl (StepS.assign rfl) ?_
    refine TO.code ?_
    cases hm
    refine TC.ret fun a w e s => ?_
    refine FRet.mk1 (P := Tryd.prog) (fn := Tryd.f39) (t := 2) e rfl rfl ?_
    exact ⟨rfl, s.mono fun _ => Sat.dropN 0⟩
  · replace hm := cond_f hc1 hm
    refine TC.skipk ?_
    refine TC.k ?_
    refine TC.k ?_
    refine TC.region ?_
    refine TO.s rfl rfl rfl (StepS.move rfl) ?_
    refine TO.s rfl rfl rfl (StepS.cmpS kunderlying_9_some_string rfl rfl rfl) ?_
    refine TO.s rfl rfl rfl (StepS.move rfl) ?_
    obtain ⟨b3, hj4, hm⟩ := bind_some hm
    refine TO.mid1 4 12 (.bool b3) ?_ ?_
    · refine bcase ((sEq a0 (ByteArray.mk #[]))) (fun hb2 => ?_) (fun hb2 => ?_)
      · replace hj4 := cond_t hb2 hj4
        cases hj4
        refine TO.skip rfl rfl rfl (skipT hb2) rfl rfl ?_
        refine TO.skip rfl rfl rfl (skipT hb2) rfl rfl ?_
        refine TO.skip rfl rfl rfl (skipT hb2) rfl rfl ?_
        refine TO.s rfl rfl rfl (StepS.pickT rfl hb2 rfl) ?_
        exact TO.up1 4 0 rfl rfl rfl rfl
      · replace hj4 := cond_f hb2 hj4
        refine TO.sw rfl rfl rfl hb2 rfl rfl (StepS.move rfl) ?_
        obtain ⟨x5, hx6, hj4⟩ := bind_some hj4
        refine TO.sw rfl rfl rfl hb2 rfl rfl (StepS.idxS kunderlying_9_some_string rfl rfl hx6) ?_
        refine TO.sw rfl rfl rfl hb2 rfl rfl (StepS.cmp rfl rfl rfl) ?_
        cases hj4
        refine TO.s rfl rfl rfl (StepS.pickF rfl hb2 rfl) ?_
        exact TO.up1 4 0 rfl rfl rfl rfl
    refine TO.s rfl rfl rfl (StepS.move rfl) ?_
    obtain ⟨b8, hj9, hm⟩ := bind_some hm
    refine TO.mid1 7 20 (.bool b8) ?_ ?_
    · refine bcase (b3) (fun hb7 => ?_) (fun hb7 => ?_)
      · replace hj9 := cond_t hb7 hj9
        cases hj9
        refine TO.skip rfl rfl rfl (skipT hb7) rfl rfl ?_
        refine TO.skip rfl rfl rfl (skipT hb7) rfl rfl ?_
        refine TO.skip rfl rfl rfl (skipT hb7) rfl rfl ?_
        refine TO.skip rfl rfl rfl (skipT hb7) rfl rfl ?_
        refine TO.skip rfl rfl rfl (skipT hb7) rfl rfl ?_
        refine TO.skip rfl rfl rfl (skipT hb7) rfl rfl ?_
        refine TO.s rfl rfl rfl (StepS.pickT rfl hb7 rfl) ?_
        exact TO.up1 7 0 rfl rfl rfl rfl
      · replace hj9 := cond_f hb7 hj9
        refine TO.sw rfl rfl rfl hb7 rfl rfl (StepS.move rfl) ?_
        refine TO.sw rfl rfl rfl hb7 rfl rfl (StepS.move rfl) ?_
        refine TO.sw rfl rfl rfl hb7 rfl rfl (StepS.lenS kunderlying_9_some_string rfl rfl) ?_
        refine TO.sw rfl rfl rfl hb7 rfl rfl (StepS.ari rfl rfl rfl) ?_
        obtain ⟨x10, hx11, hj9⟩ := bind_some hj9
        refine TO.sw rfl rfl rfl hb7 rfl rfl (StepS.idxS kunderlying_9_some_string rfl rfl hx11) ?_
        refine TO.sw rfl rfl rfl hb7 rfl rfl (StepS.cmp rfl rfl rfl) ?_
        cases hj9
        refine TO.s rfl rfl rfl (StepS.pickF rfl hb7 rfl) ?_
        exact TO.up1 7 0 rfl rfl rfl rfl
    refine TO.code ?_
    refine TC.cond rfl (fun hc12 => ?_) (fun hc12 => ?_)
    · replace hm := cond_t hc12 hm
      refine TC.k ?_
      refine TC.region ?_
      refine TO.s rfl rfl rfl (StepS.assign rfl) ?_
      refine TO.code ?_
      cases hm
      refine TC.ret fun a w e s => ?_
      refine FRet.mk1 (P := Tryd.prog) (fn := Tryd.f39) (t := 2) e rfl rfl ?_
      exact ⟨rfl, s.mono fun _ => Sat.dropN 0⟩
    · replace hm := cond_f hc12 hm
      refine TC.skipk ?_
      refine TC.k ?_
      refine TC.k ?_
      refine TC.region ?_
      refine TO.s rfl rfl rfl (StepS.assign rfl) ?_
      refine TO.code ?_
      obtain ⟨o15, hw16, hm⟩ := bind_some hm
      refine TC.loop hw16 (fun x13 => fun a w => Mid 50 B [(0, .string a0), (3, I x13)] (L) a w) (fun _ => fun a w => Mid 50 B [] (L) a w) (fun r0 => FRet Tryd.prog Tryd.f39 (fun e w' => (e = .returned (.bool r0) ∧ St B (L) w'))) ?_ ?_ ?_ ?_
      · rintro x13 o15r hb17 a w ⟨he, hs⟩
        dsimp only [F39_L0] at hb17
        refine TC.use ?_ he hs
        refine TC.k ?_
        refine TC.k ?_
        refine TC.region ?_
        refine TO.s rfl rfl rfl (StepS.move rfl) ?_
        refine TO.s rfl rfl rfl (StepS.move rfl) ?_
        refine TO.s rfl rfl rfl (StepS.lenS kunderlying_9_some_string rfl rfl) ?_
        refine TO.s rfl rfl rfl (StepS.cmp rfl rfl rfl) ?_
        refine TO.code ?_
        refine TC.cond rfl (fun hc18 => ?_) (fun hc18 => ?_)
        · replace hb17 := cond_t hc18 hb17
          refine TC.skipk ?_
          refine TC.k ?_
          refine TC.block ?_
          refine TC.k ?_
          refine TC.region ?_
          refine TO.s rfl rfl rfl (StepS.move rfl) ?_
          refine TO.s rfl rfl rfl (StepS.move rfl) ?_
          obtain ⟨x19, hx20, hb17⟩ := bind_some hb17
          refine TO.s rfl rfl rfl (StepS.idxS kunderlying_9_some_string rfl rfl hx20) ?_
          refine TO.s rfl rfl rfl (StepS.cmp rfl rfl rfl) ?_
          refine TO.code ?_
          refine TC.cond rfl (fun hc21 => ?_) (fun hc21 => ?_)
          · replace hb17 := cond_t hc21 hb17
            refine TC.k ?_
            refine TC.region ?_
            refine TO.s rfl rfl rfl (StepS.move rfl) ?_
            refine TO.s rfl rfl rfl (StepS.cmp rfl rfl rfl) ?_
            refine TO.s rfl rfl rfl (StepS.move rfl) ?_
            obtain ⟨b23, hj24, hb17⟩ := bind_some hb17
            refine TO.mid1 6 39 (.bool b23) ?_ ?_
            · refine bcase ((decide (x13 > 0))) (fun hb22 => ?_) (fun hb22 => ?_)
              · replace hj24 := cond_t hb22 hj24
                refine TO.sw rfl rfl rfl hb22 rfl rfl (StepS.move rfl) ?_
                refine TO.sw rfl rfl rfl hb22 rfl rfl (StepS.move rfl) ?_
                refine TO.sw rfl rfl rfl hb22 rfl rfl (StepS.ari rfl rfl rfl) ?_
                obtain ⟨x25, hx26, hj24⟩ := bind_some hj24
                refine TO.sw rfl rfl rfl hb22 rfl rfl (StepS.idxS kunderlying_9_some_string rfl rfl hx26) ?_
                refine TO.sw rfl rfl rfl hb22 rfl rfl (StepS.cmp rfl rfl rfl) ?_
                cases hj24
                refine TO.s rfl rfl rfl (StepS.pickT rfl hb22 rfl) ?_
                exact TO.up1 6 0 rfl rfl rfl rfl
              · replace hj24 := cond_f hb22 hj24
                cases hj24
                refine TO.skip rfl rfl rfl (skipF hb22) rfl rfl ?_
                refine TO.skip rfl rfl rfl (skipF hb22) rfl rfl ?_
                refine TO.skip rfl rfl rfl (skipF hb22) rfl rfl ?_
                refine TO.skip rfl rfl rfl (skipF hb22) rfl rfl ?_
                refine TO.skip rfl rfl rfl (skipF hb22) rfl rfl ?_
                refine TO.s rfl rfl rfl (StepS.pickF rfl hb22 rfl) ?_
                exact TO.up1 6 0 rfl rfl rfl rfl
            refine TO.code ?_
            refine TC.cond rfl (fun hc27 => ?_) (fun hc27 => ?_)
            · replace hb17 := cond_t hc27 hb17
              refine TC.k ?_
              refine TC.region ?_
              refine TO.s rfl rfl rfl (StepS.assign rfl) ?_
              refine TO.code ?_
              cases hb17
              refine TC.ret fun a w e s => ?_
              refine FRet.mk1 (P := Tryd.prog) (fn := Tryd.f39) (t := 2) e rfl rfl ?_
              exact ⟨rfl, s.mono fun _ => Sat.dropN 0⟩
            · replace hb17 := cond_f hc27 hb17
              refine TC.skipk ?_
              refine TC.region ?_
              refine TO.s rfl rfl rfl (StepS.move rfl) ?_
              refine TO.s rfl rfl rfl (StepS.ari rfl rfl rfl) ?_
              refine TO.s rfl rfl rfl (StepS.assign rfl) ?_
              cases hb17
              refine TO.nil fun a w e s => ?_
              exact ⟨e.sub (lk_of_allIn ⟨rfl, rfl, trivial⟩), s⟩
          · replace hb17 := cond_f hc21 hb17
            refine TC.k ?_
            refine TC.region ?_
            refine TO.s rfl rfl rfl (StepS.move rfl) ?_
            refine TO.s rfl rfl rfl (StepS.move rfl) ?_
            obtain ⟨x28, hx29, hb17⟩ := bind_some hb17
            refine TO.s rfl rfl rfl (StepS.idxS kunderlying_9_some_string rfl rfl hx29) ?_
            refine TO.s rfl rfl rfl (StepS.cmp rfl rfl rfl) ?_
            refine TO.s rfl rfl rfl (StepS.move rfl) ?_
            obtain ⟨b31, hj32, hb17⟩ := bind_some hb17
            refine TO.mid1 5 49 (.bool b31) ?_ ?_
            · refine bcase ((decide (x28 < 97))) (fun hb30 => ?_) (fun hb30 => ?_)
              · replace hj32 := cond_t hb30 hj32
                cases hj32
                refine TO.skip rfl rfl rfl (skipT hb30) rfl rfl ?_
                refine TO.skip rfl rfl rfl (skipT hb30) rfl rfl ?_
                refine TO.skip rfl rfl rfl (skipT hb30) rfl rfl ?_
                refine TO.skip rfl rfl rfl (skipT hb30) rfl rfl ?_
                refine TO.s rfl rfl rfl (StepS.pickT rfl hb30 rfl) ?_
                exact TO.up1 5 0 rfl rfl rfl rfl
              · replace hj32 := cond_f hb30 hj32
                refine TO.sw rfl rfl rfl hb30 rfl rfl (StepS.move rfl) ?_
                refine TO.sw rfl rfl rfl hb30 rfl rfl (StepS.move rfl) ?_
                obtain ⟨x33, hx34, hj32⟩ := bind_some hj32
                refine TO.sw rfl rfl rfl hb30 rfl rfl (StepS.idxS kunderlying_9_some_string rfl rfl hx34) ?_
                refine TO.sw rfl rfl rfl hb30 rfl rfl (StepS.cmp rfl rfl rfl) ?_
                cases hj32
                refine TO.s rfl rfl rfl (StepS.pickF rfl hb30 rfl) ?_
                exact TO.up1 5 0 rfl rfl rfl rfl
            refine TO.code ?_
            refine TC.cond rfl (fun hc35 => ?_) (fun hc35 => ?_)
            · replace hb17 := cond_t hc35 hb17
              refine TC.k ?_
              refine TC.region ?_
              refine TO.s rfl rfl rfl (StepS.assign rfl) ?_
              refine TO.code ?_
              cases hb17
              refine TC.ret fun a w e s => ?_
              refine FRet.mk1 (P := Tryd.prog) (fn := Tryd.f39) (t := 2) e rfl rfl ?_
              exact ⟨rfl, s.mono fun _ => Sat.dropN 0⟩
            · replace hb17 := cond_f hc35 hb17
              refine TC.skipk ?_
              refine TC.region ?_
              refine TO.s rfl rfl rfl (StepS.move rfl) ?_
              refine TO.s rfl rfl rfl (StepS.ari rfl rfl rfl) ?_
              refine TO.s rfl rfl rfl (StepS.assign rfl) ?_
              cases hb17
              refine TO.nil fun a w e s => ?_
              exact ⟨e.sub (lk_of_allIn ⟨rfl, rfl, trivial⟩), s⟩
        · replace hb17 := cond_f hc18 hb17
          cases hb17
          refine TC.exit rfl fun a w e s => ?_
          exact ⟨e.sub (lk_of_allIn trivial), s⟩
      · exact fun a w e s => ⟨e.sub (lk_of_allIn ⟨rfl, rfl, trivial⟩), s⟩
      · rintro _ rfl a w ⟨he, hs⟩
        dsimp only [Ctl.on] at hm
        refine TC.use ?_ he hs
        refine TC.k ?_
        refine TC.region ?_
        refine TO.s rfl rfl rfl (StepS.assign rfl) ?_
        refine TO.code ?_
        cases hm
        refine TC.ret fun a w e s => ?_
        refine FRet.mk1 (P := Tryd.prog) (fn := Tryd.f39) (t := 2) e rfl rfl ?_
        exact ⟨rfl, s.mono fun _ => Sat.dropN 0⟩
      · rintro r rfl
        cases hm
        exact fun a w h => h

set_option maxRecDepth 100000 in
theorem C40 {B : World} {L : List HP} {a0 : List (ByteArray × ByteArray × Int)} {a1 : ByteArray} {h0 : Value} {r0 : Int} (e0 : Ent L (Rd 3 h0 (a0.map cTssi))) (hm : F40 a0 a1 = some r0) {w : World} (st : St B L w) : Calls Tryd.prog 40 #[h0, .string a1] w (fun e w' => (e = .returned (I r0) ∧ St B (L) w')) := by
  refine calls_of (N := 20) (L := L) (args := [h0, .string a1]) Tryd.func40 rfl rfl rfl ?_ st
  dsimp only [F40] at hm
  refine TC.k ?_
  refine TC.region ?_
  refine TO.s rfl rfl rfl (StepS.assign rfl) ?_
  refine TO.code ?_
  refine TC.k ?_
  refine TC.k ?_
  refine TC.region ?_
  refine TO.s rfl rfl rfl (StepS.move rfl) ?_
  refine TO.s rfl rfl rfl (StepS.lenm rfl e0 ksliceB_51_84_3_true rfl) ?_
  refine TO.s rfl rfl rfl (StepS.move rfl) ?_
  refine TO.code ?_
  obtain ⟨o3, hw4, hm⟩ := bind_some hm
  refine TC.loop hw4 (fun x1 => fun a w => Mid 20 B [(1, .string a1), (7, h0), (8, I (a0.length : Int)), (9, I x1)] (L) a w) (fun _ => fun a w => Mid 20 B [] (L) a w) (fun r0 => FRet Tryd.prog Tryd.f40 (fun e w' => (e = .returned (I r0) ∧ St B (L) w'))) ?_ ?_ ?_ ?_
  · rintro x1 o3r hb5 a w ⟨he, hs⟩
    dsimp only [F40_L0] at hb5
    refine TC.use ?_ he hs
    refine TC.k ?_
    refine TC.region ?_
    refine TO.s rfl rfl rfl (StepS.cmp rfl rfl rfl) ?_
    refine TO.code ?_
    refine TC.k ?_
    refine TC.cond rfl (fun hc6 => ?_) (fun hc6 => ?_)
    · replace hb5 := cond_t hc6 hb5
      refine TC.skipk ?_
      refine TC.k ?_
      refine TC.block ?_
      refine TC.k ?_
      refine TC.region ?_
      refine TO.s rfl rfl rfl (StepS.move rfl) ?_
      obtain ⟨x7, hx8, hb5⟩ := bind_some hb5
      refine TO.s rfl rfl rfl (StepS.idx rfl rfl e0 ksliceB_51_84_3_true (idx_spec hx8).1 (idxm_lt hx8)) ?_
      refine TO.s rfl rfl rfl (StepS.ldE rfl e0 kaggB_84_3_true rfl (idxm hx8)) ?_
      refine TO.alloc kinfo_84_bind_zero_some_agg_string_ByteArray_empty_string_ByteArray_empty_I_0 rfl rfl fun b9 => ?_
      refine TO.s rfl rfl rfl (StepS.assign rfl) ?_
      refine TO.stB (us := [.string x7.1, .string x7.2.1, I x7.2.2]) 0 [.string x7.1, .string x7.2.1, I x7.2.2] rfl rfl rfl ksizeB_84_3_true rfl rfl rfl (by simp [Value.oneCell']) rfl ?_
      refine TO.code ?_
      refine TC.k ?_
      refine TC.region ?_
      refine TO.s rfl rfl rfl (StepS.fld rfl kfieldB_84_0_0_true) ?_
      refine TO.s rfl rfl rfl (StepS.ldB rfl (Ent.at 0 rfl) kscalB_9_true rfl) ?_
      refine TO.s rfl rfl rfl (StepS.move rfl) ?_
      refine TO.s rfl rfl rfl (StepS.cmpS kunderlying_9_some_string rfl rfl rfl) ?_
      refine TO.code ?_
      refine TC.cond rfl (fun hc10 => ?_) (fun hc10 => ?_)
      · replace hb5 := cond_t hc10 hb5
        refine TC.k ?_
        refine TC.region ?_
        refine TO.s rfl rfl rfl (StepS.move rfl) ?_
        refine TO.s rfl rfl rfl (StepS.assign rfl) ?_
        refine TO.code ?_
        cases hb5
        refine TC.ret fun a w e s => ?_
        refine FRet.mk1 (P := Tryd.prog) (fn := Tryd.f40) (t := 4) e rfl rfl ?_
        exact ⟨rfl, s.mono fun _ => Sat.dropN 1⟩
      · replace hb5 := cond_f hc10 hb5
        refine TC.skipk ?_
        refine TC.region ?_
        refine TO.s rfl rfl rfl (StepS.ari rfl rfl rfl) ?_
        refine TO.s rfl rfl rfl (StepS.move rfl) ?_
        cases hb5
        refine TO.nil fun a w e s => ?_
        exact ⟨e.sub (lk_of_allIn ⟨rfl, rfl, rfl, rfl, trivial⟩), s.mono fun _ => Sat.dropN 1⟩
    · replace hb5 := cond_f hc6 hb5
      cases hb5
      refine TC.exit rfl fun a w e s => ?_
      exact ⟨e.sub (lk_of_allIn trivial), s⟩
  · exact fun a w e s => ⟨e.sub (lk_of_allIn ⟨rfl, rfl, rfl, rfl, trivial⟩), s⟩
  · rintro _ rfl a w ⟨he, hs⟩
    dsimp only [Ctl.on] at hm
    refine TC.use ?_ he hs
    refine TC.k ?_
    refine TC.region ?_
    refine TO.s rfl rfl rfl (StepS.assign rfl) ?_
    refine TO.code ?_
    cases hm
    refine TC.ret fun a w e s => ?_
    refine FRet.mk1 (P := Tryd.prog) (fn := Tryd.f40) (t := 4) e rfl rfl ?_
    exact ⟨rfl, s.mono fun _ => Sat.dropN 0⟩
  · rintro r rfl
    cases hm
    exact fun a w h => h

set_option maxRecDepth 100000 in
theorem C32 {B : World} {L : List HP} {a0 : ByteArray} {r0 : ByteArray} {r1 : ByteArray} (hm : F32 a0 = some (r0, r1)) {w : World} (st : St B L w) : Calls Tryd.prog 32 #[.string a0] w (fun e w' => (e = .returned (.tuple #[.string r0, .string r1]) ∧ St B (L) w')) := by
  refine calls_of (N := 25) (L := L) (args := [.string a0]) Tryd.func32 rfl rfl rfl ?_ st
  dsimp only [F32] at hm
  refine TC.k ?_
  refine TC.region ?_
  refine TO.s rfl rfl rfl (StepS.assign rfl) ?_
  refine TO.s rfl rfl rfl (StepS.assign rfl) ?_
  refine TO.code ?_
  refine TC.k ?_
  refine TC.region ?_
  refine TO.s rfl rfl rfl (StepS.move rfl) ?_
  refine TO.s rfl rfl rfl (StepS.lenS kunderlying_9_some_string rfl rfl) ?_
  refine TO.s rfl rfl rfl (StepS.ari rfl rfl rfl) ?_
  refine TO.s rfl rfl rfl (StepS.assign rfl) ?_
  refine TO.code ?_
  refine TC.k ?_
  obtain ⟨o4, hw5, hm⟩ := bind_some hm
  refine TC.loop hw5 (fun x1 => fun a w => Mid 25 B [(0, .string a0), (4, I x1)] (L) a w) (fun x3 => fun a w => Mid 25 B [(0, .string a0), (4, I x3)] (L) a w) (fun (_ : Unit) _ _ => False) ?_ ?_ ?_ ?_
  · rintro x1 o4r hb6 a w ⟨he, hs⟩
    dsimp only [F32_L0] at hb6
    refine TC.use ?_ he hs
    refine TC.k ?_
    refine TC.k ?_
    refine TC.region ?_
    refine TO.s rfl rfl rfl (StepS.move rfl) ?_
    refine TO.s rfl rfl rfl (StepS.move rfl) ?_
    obtain ⟨x7, hx8, hb6⟩ := bind_some hb6
    refine TO.s rfl rfl rfl (StepS.idxS kunderlying_9_some_string rfl rfl hx8) ?_
    refine TO.s rfl rfl rfl (StepS.cmp rfl rfl rfl) ?_
    refine TO.code ?_
    refine TC.cond rfl (fun hc9 => ?_) (fun hc9 => ?_)
    · replace hb6 := cond_t hc9 hb6
      refine TC.skipk ?_
      refine TC.block ?_
      refine TC.region ?_
      refine TO.s rfl rfl rfl (StepS.move rfl) ?_
      refine TO.s rfl rfl rfl (StepS.ari rfl rfl rfl) ?_
      refine TO.s rfl rfl rfl (StepS.assign rfl) ?_
      cases hb6
      refine TO.nil fun a w e s => ?_
      exact ⟨e.sub (lk_of_allIn ⟨rfl, rfl, trivial⟩), s⟩
    · replace hb6 := cond_f hc9 hb6
      cases hb6
      refine TC.exit rfl fun a w e s => ?_
      exact ⟨e.sub (lk_of_allIn ⟨rfl, rfl, trivial⟩), s⟩
  · exact fun a w e s => ⟨e.sub (lk_of_allIn ⟨rfl, rfl, trivial⟩), s⟩
  · rintro x3 rfl a w ⟨he, hs⟩
    dsimp only [Ctl.on] at hm
    refine TC.use ?_ he hs
    refine TC.k ?_
    refine TC.k ?_
    refine TC.region ?_
    refine TO.s rfl rfl rfl (StepS.move rfl) ?_
    refine TO.s rfl rfl rfl (StepS.cmp rfl rfl rfl) ?_
    refine TO.code ?_
    refine TC.cond rfl (fun hc10 => ?_) (fun hc10 => ?_)
    · replace hm := cond_t hc10 hm
      refine TC.k ?_
      refine TC.region_still kfollows_mixedOrders_true (by kernel_rfl) ?_
      refine TS.s rfl rfl rfl (StepS.move rfl) ?_
      obtain ⟨x11, hx12, hm⟩ := bind_some hm
      refine TS.s rfl rfl rfl (StepS.slcS kunderlying_9_some_string rfl rfl rfl hx12) ?_
      refine TS.s rfl rfl rfl (StepS.assign rfl) ?_
      refine TS.s rfl rfl rfl (StepS.assign rfl) ?_
      refine TS.code ?_
      cases hm
      refine TC.ret fun a w e s => ?_
      refine FRet.mk2 (P := Tryd.prog) (fn := Tryd.f32) (t := 2) (u := 3) e rfl rfl rfl ?_
      exact ⟨rfl, s.mono fun _ => Sat.dropN 0⟩
    · replace hm := cond_f hc10 hm
      refine TC.skipk ?_
      refine TC.k ?_
      refine TC.region_still kfollows_mixedOrders_true (by kernel_rfl) ?_
      refine TS.s rfl rfl rfl (StepS.move rfl) ?_
      refine TS.s rfl rfl rfl (StepS.move rfl) ?_
      obtain ⟨x13, hx14, hm⟩ := bind_some hm
      refine TS.s rfl rfl rfl (StepS.slcS kunderlying_9_some_string rfl rfl rfl hx14) ?_
      refine TS.s rfl rfl rfl (StepS.move rfl) ?_
      refine TS.s rfl rfl rfl (StepS.move rfl) ?_
      refine TS.s rfl rfl rfl (StepS.ari rfl rfl rfl) ?_
      obtain ⟨x15, hx16, hm⟩ := bind_some hm
      refine TS.s rfl rfl rfl (StepS.slcS kunderlying_9_some_string rfl rfl rfl hx16) ?_
      refine TS.s rfl rfl rfl (StepS.assign rfl) ?_
      refine TS.s rfl rfl rfl (StepS.assign rfl) ?_
      refine TS.code ?_
      cases hm
      refine TC.ret fun a w e s => ?_
      refine FRet.mk2 (P := Tryd.prog) (fn := Tryd.f32) (t := 2) (u := 3) e rfl rfl rfl ?_
      exact ⟨rfl, s.mono fun _ => Sat.dropN 0⟩
  · rintro r rfl
    exact fun a w h => h.elim

set_option maxRecDepth 100000 in
theorem C41 {B : World} {L : List HP} {a0 : List (ByteArray × ByteArray × Int)} {a1 : ByteArray} {h0 : Value} {r0 : List ByteArray} (e0 : Ent L (Rd 3 h0 (a0.map cTssi))) (hm : F41 a0 a1 = some r0) {w : World} (st : St B L w) : Calls Tryd.prog 41 #[h0, .string a1] w (fun e w' => ∃ v M, e = .returned v ∧ (∃ (qv1 : Value), v = qv1 ∧ M = (OwnS 9 1 qv1 (r0.map cS) :: L)) ∧ St B M w') := by
  refine calls_of (N := 75) (L := L) (args := [h0, .string a1]) Tryd.func41 rfl rfl rfl ?_ st
  dsimp only [F41] at hm
  refine TC.k ?_
  refine TC.region ?_
  refine TO.s rfl rfl rfl (StepS.assign rfl) ?_
  refine TO.code ?_
  refine TC.k ?_
  refine TC.region ?_
  refine TO.s rfl rfl rfl (StepS.assign rfl) ?_
  refine TO.code ?_
  refine TC.k ?_
  refine TC.k ?_
  refine TC.region ?_
  refine TO.s rfl rfl rfl (StepS.move rfl) ?_
  refine TO.s rfl rfl rfl (StepS.lenm rfl e0 ksliceB_51_84_3_true rfl) ?_
  refine TO.s rfl rfl rfl (StepS.move rfl) ?_
  refine TO.code ?_
  obtain ⟨o13, hw14, hm⟩ := bind_some hm
  refine TC.loop hw14 (fun (y4, x5) => fun a w => ∃ v2 : Value, Mid 75 B [(1, .string a1), (5, v2), (12, h0), (13, I (a0.length : Int)), (14, I x5)] (OwnS 9 1 v2 (y4.map cS) :: L) a w) (fun y12 => fun a w => ∃ v10 : Value, Mid 75 B [(5, v10)] (OwnS 9 1 v10 (y12.map cS) :: L) a w) (fun (_ : Unit) _ _ => False) ?_ ?_ ?_ ?_
  · rintro ⟨y4, x5⟩ o13r hb15 a w ⟨v2, he, hs⟩
    dsimp only [F41_L0] at hb15
    refine TC.use ?_ he hs
    refine TC.k ?_
    refine TC.region ?_
    refine TO.s rfl rfl rfl (StepS.cmp rfl rfl rfl) ?_
    refine TO.code ?_
    refine TC.k ?_
    refine TC.cond rfl (fun hc16 => ?_) (fun hc16 => ?_)
    · replace hb15 := cond_t hc16 hb15
      refine TC.skipk ?_
      refine TC.k ?_
      obtain ⟨y17, hj19, hb15⟩ := bind_some hb15
      first | refine TC.cutM (fun a w => ∃ v18 : Value, Mid 75 B [(1, .string a1), (5, v18), (12, h0), (13, I (a0.length : Int)), (14, I x5)] (OwnS 9 1 v18 (y17.map cS) :: L) a w) ?_ ?_ | refine TC.cutX (fun a w => ∃ v18 : Value, Mid 75 B [(1, .string a1), (5, v18), (12, h0), (13, I (a0.length : Int)), (14, I x5)] (OwnS 9 1 v18 (y17.map cS) :: L) a w) ?_ ?_
      · refine TC.block ?_
        refine TC.k ?_
        refine TC.region ?_
        obtain ⟨x20, hx21, hj19⟩ := bind_some hj19
        refine TO.s rfl rfl rfl (StepS.idx rfl rfl e0.tl ksliceB_51_84_3_true (idx_spec hx21).1 (idxm_lt hx21)) ?_
        refine TO.s rfl rfl rfl (StepS.ldE rfl e0.tl kaggB_84_3_true rfl (idxm hx21)) ?_
        refine TO.alloc kinfo_84_bind_zero_some_agg_string_ByteArray_empty_string_ByteArray_empty_I_0 rfl rfl fun b22 => ?_
        refine TO.stB (us := [.string x20.1, .string x20.2.1, I x20.2.2]) 0 [.string x20.1, .string x20.2.1, I x20.2.2] rfl rfl rfl ksizeB_84_3_true rfl rfl rfl (by simp [Value.oneCell']) rfl ?_
        refine TO.code ?_
        refine TC.k ?_
        refine TC.k ?_
        refine TC.region ?_
        refine TO.s rfl rfl rfl (StepS.fld rfl kfieldB_84_0_0_true) ?_
        refine TO.s rfl rfl rfl (StepS.ldB rfl (Ent.at 0 rfl) kscalB_9_true rfl) ?_
        refine TO.s rfl rfl rfl (StepS.cmpS kunderlying_9_some_string rfl rfl rfl) ?_
        refine TO.code ?_
        refine TC.cond rfl (fun hc23 => ?_) (fun hc23 => ?_)
        · replace hj19 := cond_t hc23 hj19
          cases hj19
          refine TC.exit rfl fun a w e s => ?_
          exact ⟨v2, e.sub (lk_of_allIn ⟨rfl, rfl, rfl, rfl, rfl, trivial⟩), s.mono fun _ => Sat.dropN 1⟩
        · replace hj19 := cond_f hc23 hj19
          refine TC.skipk ?_
          refine TC.k ?_
          refine TC.region ?_
          refine TO.s rfl rfl rfl (StepS.fld rfl kfieldB_84_0_0_true) ?_
          refine TO.s rfl rfl rfl (StepS.ldB rfl (Ent.at 0 rfl) kscalB_9_true rfl) ?_
          obtain ⟨⟨r24, r25⟩, hc26, hj19⟩ := bind_some hj19
          refine TO.q rfl rfl rfl (StepQ.call kcallB_32_true rfl rfl (fun _ st => C32  hc26 st)) ?_
          refine TO.s rfl rfl rfl (StepS.move rfl) ?_
          refine TO.s rfl rfl rfl (StepS.extract rfl rfl) ?_
          refine TO.s rfl rfl rfl (StepS.extract rfl rfl) ?_
          refine TO.s rfl rfl rfl (StepS.assign rfl) ?_
          refine TO.s rfl rfl rfl (StepS.assign rfl) ?_
          refine TO.code ?_
          refine TC.k ?_
          refine TC.region ?_
          refine TO.s rfl rfl rfl (StepS.move rfl) ?_
          refine TO.s rfl rfl rfl (StepS.move rfl) ?_
          refine TO.s rfl rfl rfl (StepS.cmpS kunderlying_9_some_string rfl rfl rfl) ?_
          refine TO.code ?_
          refine TC.cond rfl (fun hc27 => ?_) (fun hc27 => ?_)
          · replace hj19 := cond_t hc27 hj19
            refine TC.region ?_
            refine TO.s rfl rfl rfl (StepS.move rfl) ?_
            refine TO.s rfl rfl rfl (StepS.move rfl) ?_
            refine TO.litS (f := cS) ([r25] : List ByteArray) kelemB_39_9_1_16_true kinfo_9_bind_zero_some_string_ByteArray_empty rfl rfl (fun _ => rfl) rfl rfl (by kernel_rfl) rfl fun v28 => ?_
            obtain ⟨y30, hk31, hj19⟩ := bind_some hj19
            refine TO.app (k := 2) (f := cS) kelemB_39_9_1_16_true (by decide) rfl rfl rfl (OwnS.rd (Ent.at 0 rfl)) hk31 (fun x c hc => by simp [Value.oneCell'] at hc ⊢; first | (obtain rfl := hc; rfl) | (rcases hc with rfl <;> rfl)) rfl rfl fun v32 => ?_
            refine TO.s rfl rfl rfl (StepS.assign rfl) ?_
            cases hj19
            refine TO.nil fun a w e s => ?_
            exact ⟨v32, e.sub (lk_of_allIn ⟨rfl, rfl, rfl, rfl, rfl, trivial⟩), s.mono fun _ => Sat.dropN 2⟩
          · replace hj19 := cond_f hc27 hj19
            cases hj19
            refine TC.skip fun a w e s => ?_
            exact ⟨v2, e.sub (lk_of_allIn ⟨rfl, rfl, rfl, rfl, rfl, trivial⟩), s.mono fun _ => Sat.dropN 1⟩
      · intro a w ⟨v18, he, hs⟩
        refine TC.use ?_ he hs
        refine TC.region ?_
        refine TO.s rfl rfl rfl (StepS.ari rfl rfl rfl) ?_
        refine TO.s rfl rfl rfl (StepS.move rfl) ?_
        cases hb15
        refine TO.nil fun a w e s => ?_
        exact ⟨v18, e.sub (lk_of_allIn ⟨rfl, rfl, rfl, rfl, rfl, trivial⟩), s⟩
    · replace hb15 := cond_f hc16 hb15
      cases hb15
      refine TC.exit rfl fun a w e s => ?_
      exact ⟨v2, e.sub (lk_of_allIn ⟨rfl, trivial⟩), s⟩
  · exact fun a w e s => ⟨.slice none 0 0, e.sub (lk_of_allIn ⟨rfl, rfl, rfl, rfl, rfl, trivial⟩), s.mono fun _ s => (by replace s := Sat.nilS (e := 9) (sz := 1) (f := cS) s; exact Sat.by [0] 1 0 (by kernel_rfl) s)⟩
  · rintro y12 rfl a w ⟨v10, he, hs⟩
    dsimp only [Ctl.on] at hm
    refine TC.use ?_ he hs
    refine TC.k ?_
    refine TC.k ?_
    refine TC.region ?_
    refine TO.s rfl rfl rfl (StepS.assign rfl) ?_
    refine TO.code ?_
    obtain ⟨o38, hw39, hm⟩ := bind_some hm
    refine TC.loop hw39 (fun (y33, x34) => fun a w => Mid 75 B [(5, v10), (10, I x34)] (OwnS 9 1 v10 (y33.map cS) :: L) a w) (fun y37 => fun a w => Mid 75 B [(5, v10)] (OwnS 9 1 v10 (y37.map cS) :: L) a w) (fun (_ : Unit) _ _ => False) ?_ ?_ ?_ ?_
    · rintro ⟨y33, x34⟩ o38r hb40 a w ⟨he, hs⟩
      dsimp only [F41_L1] at hb40
      refine TC.use ?_ he hs
      refine TC.k ?_
      refine TC.k ?_
      refine TC.region ?_
      refine TO.s rfl rfl rfl (StepS.move rfl) ?_
      refine TO.s rfl rfl rfl (StepS.move rfl) ?_
      refine TO.s rfl rfl rfl (StepS.lenm rfl (OwnS.rd (Ent.at 0 rfl)) ksliceB_39_9_1_true rfl) ?_
      refine TO.s rfl rfl rfl (StepS.cmp rfl rfl rfl) ?_
      refine TO.code ?_
      refine TC.cond rfl (fun hc41 => ?_) (fun hc41 => ?_)
      · replace hb40 := cond_t hc41 hb40
        refine TC.skipk ?_
        refine TC.k ?_
        refine TC.block ?_
        refine TC.k ?_
        refine TC.region ?_
        refine TO.s rfl rfl rfl (StepS.move rfl) ?_
        refine TO.s rfl rfl rfl (StepS.assign rfl) ?_
        refine TO.code ?_
        obtain ⟨o47, hw48, hb40⟩ := bind_some hb40
        refine TC.loop hw48 (fun (y42, x43) => fun a w => Mid 75 B [(5, v10), (10, I x34), (11, I x43)] (OwnS 9 1 v10 (y42.map cS) :: L) a w) (fun y46 => fun a w => Mid 75 B [(5, v10), (10, I x34)] (OwnS 9 1 v10 (y46.map cS) :: L) a w) (fun (_ : Unit) _ _ => False) ?_ ?_ ?_ ?_
        · rintro ⟨y42, x43⟩ o47r hb49 a w ⟨he, hs⟩
          dsimp only [F41_L2] at hb49
          refine TC.use ?_ he hs
          refine TC.k ?_
          refine TC.k ?_
          refine TC.region_still kfollows_mixedOrders_true (by kernel_rfl) ?_
          refine TS.s rfl rfl rfl (StepS.move rfl) ?_
          refine TS.s rfl rfl rfl (StepS.cmp rfl rfl rfl) ?_
          refine TS.s rfl rfl rfl (StepS.move rfl) ?_
          obtain ⟨b51, hj52, hb49⟩ := bind_some hb49
          refine TS.mid1 11 55 (.bool b51) ?_ ?_
          · refine bcase ((decide (x43 > 0))) (fun hb50 => ?_) (fun hb50 => ?_)
            · replace hj52 := cond_t hb50 hj52
              refine TS.sw rfl rfl rfl hb50 rfl rfl (StepS.move rfl) ?_
              refine TS.sw rfl rfl rfl hb50 rfl rfl (StepS.move rfl) ?_
              obtain ⟨x53, hx54, hj52⟩ := bind_some hj52
              refine TS.sw rfl rfl rfl hb50 rfl rfl (StepS.idx rfl rfl (OwnS.rd (Ent.at 0 rfl)) ksliceB_39_9_1_true (idx_spec hx54).1 (idxm_lt hx54)) ?_
              refine TS.sw rfl rfl rfl hb50 rfl rfl (StepS.ld0 rfl (OwnS.rd (Ent.at 0 rfl)) kscalB_9_true rfl (idxm hx54) rfl) ?_
              refine TS.sw rfl rfl rfl hb50 rfl rfl (StepS.move rfl) ?_
              refine TS.sw rfl rfl rfl hb50 rfl rfl (StepS.move rfl) ?_
              refine TS.sw rfl rfl rfl hb50 rfl rfl (StepS.ari rfl rfl rfl) ?_
              obtain ⟨x55, hx56, hj52⟩ := bind_some hj52
              refine TS.sw rfl rfl rfl hb50 rfl rfl (StepS.idx rfl rfl (OwnS.rd (Ent.at 0 rfl)) ksliceB_39_9_1_true (idx_spec hx56).1 (idxm_lt hx56)) ?_
              refine TS.sw rfl rfl rfl hb50 rfl rfl (StepS.ld0 rfl (OwnS.rd (Ent.at 0 rfl)) kscalB_9_true rfl (idxm hx56) rfl) ?_
              refine TS.sw rfl rfl rfl hb50 rfl rfl (StepS.cmpS kunderlying_9_some_string rfl rfl rfl) ?_
              cases hj52
              refine TS.s rfl rfl rfl (StepS.pickT rfl hb50 rfl) ?_
              exact TS.up1 11 0 rfl rfl rfl rfl
            · replace hj52 := cond_f hb50 hj52
              cases hj52
              refine TS.skip rfl rfl rfl (skipF hb50) rfl rfl ?_
              refine TS.skip rfl rfl rfl (skipF hb50) rfl rfl ?_
              refine TS.skip rfl rfl rfl (skipF hb50) rfl rfl ?_
              refine TS.skip rfl rfl rfl (skipF hb50) rfl rfl ?_
              refine TS.skip rfl rfl rfl (skipF hb50) rfl rfl ?_
              refine TS.skip rfl rfl rfl (skipF hb50) rfl rfl ?_
              refine TS.skip rfl rfl rfl (skipF hb50) rfl rfl ?_
              refine TS.skip rfl rfl rfl (skipF hb50) rfl rfl ?_
              refine TS.skip rfl rfl rfl (skipF hb50) rfl rfl ?_
              refine TS.skip rfl rfl rfl (skipF hb50) rfl rfl ?_
              refine TS.s rfl rfl rfl (StepS.pickF rfl hb50 rfl) ?_
              exact TS.up1 11 0 rfl rfl rfl rfl
          refine TS.code ?_
          refine TC.cond rfl (fun hc57 => ?_) (fun hc57 => ?_)
          · replace hb49 := cond_t hc57 hb49
            refine TC.skipk ?_
            refine TC.k ?_
            refine TC.block ?_
            refine TC.region_any (OwnS 9 1 v10 (y42.map cS) :: L) 15 18 kfollows_mixedOrders_true rfl ?_
            refine TA.takeW 0 rfl rfl rfl rfl (StepS.move rfl) (by kernel_rfl) (by kernel_rfl) (by kernel_rfl) rfl (.inr (fun _ s => s)) ?_
            refine TA.takeW 1 rfl rfl rfl rfl (StepS.move rfl) (by kernel_rfl) (by kernel_rfl) (by kernel_rfl) rfl (.inr (fun _ s => s)) ?_
            refine TA.takeW 2 rfl rfl rfl rfl (StepS.move rfl) (by kernel_rfl) (by kernel_rfl) (by kernel_rfl) rfl (.inr (fun _ s => s)) ?_
            refine TA.takeW 3 rfl rfl rfl rfl (StepS.move rfl) (by kernel_rfl) (by kernel_rfl) (by kernel_rfl) rfl (.inr (fun _ s => s)) ?_
            refine TA.takeW 4 rfl rfl rfl rfl (StepS.ari rfl rfl rfl) (by kernel_rfl) (by kernel_rfl) (by kernel_rfl) rfl (.inr (fun _ s => s)) ?_
            refine TA.takeW 5 rfl rfl rfl rfl (StepS.move rfl) (by kernel_rfl) (by kernel_rfl) (by kernel_rfl) rfl (.inr (fun _ s => s)) ?_
            refine TA.takeW 6 rfl rfl rfl rfl (StepS.move rfl) (by kernel_rfl) (by kernel_rfl) (by kernel_rfl) rfl (.inr (fun _ s => s)) ?_
            refine TA.takeW 7 rfl rfl rfl rfl (StepS.ari rfl rfl rfl) (by kernel_rfl) (by kernel_rfl) (by kernel_rfl) rfl (.inr (fun _ s => s)) ?_
            obtain ⟨xq58_8_1, hxq58_8_2, hb49⟩ := bind_some hb49
            refine TA.take 8 rfl rfl rfl rfl (StepS.idx rfl rfl (OwnS.rd (Ent.at 0 rfl)) ksliceB_39_9_1_true (idx_spec hxq58_8_2).1 (idxm_lt hxq58_8_2)) (by kernel_rfl) (by kernel_rfl) (by kernel_rfl) (by kernel_rfl) (by kernel_rfl) (fun _ s => s) ?_
            refine TA.take 9 rfl rfl rfl rfl (StepS.ld0 rfl (OwnS.rd (Ent.at 0 rfl)) kscalB_9_true rfl (idxm hxq58_8_2) rfl) (by kernel_rfl) (by kernel_rfl) (by kernel_rfl) (by kernel_rfl) (by kernel_rfl) (fun _ s => s) ?_
            refine TA.takeW 10 rfl rfl rfl rfl (StepS.move rfl) (by kernel_rfl) (by kernel_rfl) (by kernel_rfl) rfl (.inr (fun _ s => s)) ?_
            refine TA.takeW 11 rfl rfl rfl rfl (StepS.move rfl) (by kernel_rfl) (by kernel_rfl) (by kernel_rfl) rfl (.inr (fun _ s => s)) ?_
            refine TA.all1 (i := 12) (by kernel_rfl) ?_
            refine TB.of rfl ?_
            obtain ⟨xq58_12_1, hxq58_12_2, hb49⟩ := bind_some hb49
            refine TO.s rfl rfl rfl (StepS.idx rfl rfl (OwnS.rd (Ent.at 0 rfl)) ksliceB_39_9_1_true (idx_spec hxq58_12_2).1 (idxm_lt hxq58_12_2)) ?_
            refine TA.back (.inr (fun _ s => s)) ?_
            refine TA.asL (L' := (OwnS 9 1 v10 (y42.map cS) :: L)) (listed' := #[true, true, true, true, true, true, true, true, true, true, true, true, true, false, false, false, false, false]) (by kernel_rfl) (by kernel_rfl) ?_
            refine TA.take 13 rfl rfl rfl rfl (StepS.ld0 rfl (OwnS.rd (Ent.at 0 rfl)) kscalB_9_true rfl (idxm hxq58_12_2) rfl) (by kernel_rfl) (by kernel_rfl) (by kernel_rfl) (by kernel_rfl) (by kernel_rfl) (fun _ s => s) ?_
            obtain ⟨xq58_14_1, hxq58_14_2, hb49⟩ := bind_some hb49
            refine TA.take 14 rfl rfl rfl rfl (StepS.idx rfl rfl (OwnS.rd (Ent.at 0 rfl)) ksliceB_39_9_1_true (idx_spec hxq58_14_2).1 (idxm_lt hxq58_14_2)) (by kernel_rfl) (by kernel_rfl) (by kernel_rfl) (by kernel_rfl) (by kernel_rfl) (fun _ s => s) ?_
            refine TA.all1 (i := 15) (by kernel_rfl) ?_
            refine TB.of rfl ?_
            refine TO.stO (i := x43.toNat) (off := 0) (us := [.string xq58_8_1]) 0 xq58_8_1 rfl rfl rfl ksizeB_9_1_true rfl rfl rfl (idx_spec hxq58_14_2).2 rfl (by simp [Value.oneCell']) rfl ?_
            refine TA.back (.inl (by kernel_rfl)) ?_
            refine TA.asL (L' := (OwnS 9 1 v10 ((y42.set x43.toNat xq58_8_1).map cS) :: L)) (listed' := #[true, true, true, true, true, true, true, true, true, true, true, true, true, true, true, true, false, false]) (by kernel_rfl) (by kernel_rfl) ?_
            refine TA.all1 (i := 16) (by kernel_rfl) ?_
            refine TB.of rfl ?_
            obtain ⟨xq58_16_1, hxq58_16_2, hb49⟩ := bind_some hb49
            refine TO.s rfl rfl rfl (StepS.idx rfl rfl (OwnS.rd (Ent.at 0 rfl)) ksliceB_39_9_1_true (idx_spec hxq58_16_2).1 (idxm_lt hxq58_16_2)) ?_
            refine TA.back (.inl (by kernel_rfl)) ?_
            refine TA.asL (L' := (OwnS 9 1 v10 ((y42.set x43.toNat xq58_8_1).map cS) :: L)) (listed' := #[true, true, true, true, true, true, true, true, true, true, true, true, true, true, true, true, true, false]) (by kernel_rfl) (by kernel_rfl) ?_
            refine TA.all1 (i := 17) (by kernel_rfl) ?_
            refine TB.of rfl ?_
            refine TO.stO (i := (w64 (x43 - 1)).toNat) (off := 0) (us := [.string xq58_12_1]) 0 xq58_12_1 rfl rfl rfl ksizeB_9_1_true rfl rfl rfl (idx_spec hxq58_16_2).2 rfl (by simp [Value.oneCell']) rfl ?_
            refine TA.back (.inl (by kernel_rfl)) ?_
            refine TA.asL (L' := (OwnS 9 1 v10 (((y42.set x43.toNat xq58_8_1).set (w64 (x43 - 1)).toNat xq58_12_1).map cS) :: L)) (listed' := #[true, true, true, true, true, true, true, true, true, true, true, true, true, true, true, true, true, true]) (by kernel_rfl) (by kernel_rfl) ?_
            refine TA.code (by kernel_rfl) ?_
            refine TC.region ?_
            refine TO.s rfl rfl rfl (StepS.move rfl) ?_
            refine TO.s rfl rfl rfl (StepS.ari rfl rfl rfl) ?_
            refine TO.s rfl rfl rfl (StepS.assign rfl) ?_
            cases hb49
            refine TO.nil fun a w e s => ?_
            exact ⟨e.sub (lk_of_allIn ⟨rfl, rfl, rfl, trivial⟩), s⟩
          · replace hb49 := cond_f hc57 hb49
            cases hb49
            refine TC.exit rfl fun a w e s => ?_
            exact ⟨e.sub (lk_of_allIn ⟨rfl, rfl, trivial⟩), s⟩
        · exact fun a w e s => ⟨e.sub (lk_of_allIn ⟨rfl, rfl, rfl, trivial⟩), s⟩
        · rintro y46 rfl a w ⟨he, hs⟩
          dsimp only [Ctl.on] at hb40
          refine TC.use ?_ he hs
          refine TC.region ?_
          refine TO.s rfl rfl rfl (StepS.move rfl) ?_
          refine TO.s rfl rfl rfl (StepS.ari rfl rfl rfl) ?_
          refine TO.s rfl rfl rfl (StepS.assign rfl) ?_
          cases hb40
          refine TO.nil fun a w e s => ?_
          exact ⟨e.sub (lk_of_allIn ⟨rfl, rfl, trivial⟩), s⟩
        · rintro r rfl
          exact fun a w h => h.elim
      · replace hb40 := cond_f hc41 hb40
        cases hb40
        refine TC.exit rfl fun a w e s => ?_
        exact ⟨e.sub (lk_of_allIn ⟨rfl, trivial⟩), s⟩
    · exact fun a w e s => ⟨e.sub (lk_of_allIn ⟨rfl, rfl, trivial⟩), s⟩
    · rintro y37 rfl a w ⟨he, hs⟩
      dsimp only [Ctl.on] at hm
      refine TC.use ?_ he hs
      refine TC.k ?_
      refine TC.region ?_
      refine TO.s rfl rfl rfl (StepS.move rfl) ?_
      refine TO.s rfl rfl rfl (StepS.assign rfl) ?_
      refine TO.code ?_
      cases hm
      refine TC.ret fun a w e s => ?_
      refine FRet.mk1 (P := Tryd.prog) (fn := Tryd.f41) (t := 4) e rfl rfl ?_
      refine ⟨_, _, rfl, ⟨(v10), rfl, rfl⟩, ?_⟩
      refine s.mono fun _ s => ?_
      replace s := Sat.front 0 rfl s
      exact s
    · rintro r rfl
      exact fun a w h => h.elim
  · rintro r rfl
    exact fun a w h => h.elim

set_option maxHeartbeats 4000000 in
set_option maxRecDepth 100000 in
theorem C30 {B : World} {L : List HP} {a0 : List (ByteArray × ByteArray × Int)} {a1 : Int × ByteArray × ByteArray × Int} {h0 : Value} {r0 : List (ByteArray × ByteArray × Int)} {r1 : Int × ByteArray × Int × List ByteArray} (hm : F30 a0 a1 = some (r0, r1)) {w : World} (st : St B (OwnS 84 3 h0 (a0.map cTssi) :: L) w) : Calls Tryd.prog 30 #[h0, .agg (cTissi a1).toArray] w (fun e w' => ∃ v M, e = .returned v ∧ (∃ (qv1 : Value) (qv2 : Value), v = .tuple #[qv1, .agg #[I r1.1, .string r1.2.1, I r1.2.2.1, qv2]] ∧ M = (OwnS 84 3 qv1 (r0.map cTssi) :: OwnS 9 1 qv2 (r1.2.2.2.map cS) :: L)) ∧ St B M w') := by
  refine calls_of (N := 209) (L := (OwnS 84 3 h0 (a0.map cTssi) :: L)) (args := [h0, .agg (cTissi a1).toArray]) Tryd.func30 rfl rfl rfl ?_ st
  dsimp only [F30] at hm
  refine TC.k ?_
  refine TC.region ?_
  refine TO.boxS rfl (OwnS.rd (Ent.at 0 rfl)) rfl fun b4 => ?_
  refine TO.box (cs := [I a1.1, .string a1.2.1, .string a1.2.2.1, I a1.2.2.2]) rfl rfl rfl fun b5 => ?_
  refine TO.s rfl rfl rfl (StepS.assign rfl) ?_
  refine TO.alloc kinfo_41_bind_zero_some_agg_I_0_string_ByteArray_empty_I_0_slice_none_0_0 rfl rfl fun b6 => ?_
  refine TO.code ?_
  refine TC.k ?_
  refine TC.region ?_
  refine TO.s rfl rfl rfl (StepS.mkfn rfl) ?_
  refine TO.s rfl rfl rfl (StepS.assign rfl) ?_
  refine TO.code ?_
  refine TC.k ?_
  refine TC.k ?_
  refine TC.region ?_
  refine TO.s rfl rfl rfl (StepS.fld rfl kfieldB_45_0_0_true) ?_
  refine TO.s rfl rfl rfl (StepS.ldB rfl (Ent.at 1 rfl) kscalB_3_true rfl) ?_
  refine TO.s rfl rfl rfl (StepS.cmp rfl rfl rfl) ?_
  refine TO.s rfl rfl rfl (StepS.move rfl) ?_
  refine TO.mid1 4 19 (.bool ((decide (a1.1 < 1)) || (decide (a1.1 > 5)))) ?_ ?_
  · refine bcase ((decide (a1.1 < 1))) (fun hb7 => ?_) (fun hb7 => ?_)
    · refine TO.skip rfl rfl rfl (skipT hb7) rfl rfl ?_
      refine TO.skip rfl rfl rfl (skipT hb7) rfl rfl ?_
      refine TO.skip rfl rfl rfl (skipT hb7) rfl rfl ?_
      refine TO.s rfl rfl rfl (StepS.pickT rfl hb7 rfl) ?_
      exact TO.up1 4 0 rfl rfl (by rw [hb7]; rfl) rfl
    · refine TO.sw rfl rfl rfl hb7 rfl rfl (StepS.fld rfl kfieldB_45_0_0_true) ?_
      refine TO.sw rfl rfl rfl hb7 rfl rfl (StepS.ldB rfl (Ent.at 1 rfl) kscalB_3_true rfl) ?_
      refine TO.sw rfl rfl rfl hb7 rfl rfl (StepS.cmp rfl rfl rfl) ?_
      refine TO.s rfl rfl rfl (StepS.pickF rfl hb7 rfl) ?_
      exact TO.up1 4 0 rfl rfl (by rw [hb7]; rfl) rfl
  refine TO.code ?_
  refine TC.cond rfl (fun hc8 => ?_) (fun hc8 => ?_)
  · replace hm := cond_t hc8 hm
    refine TC.k ?_
    refine TC.region ?_
    refine TO.s rfl rfl rfl (StepS.move rfl) ?_
    obtain ⟨r9, hc10, hm⟩ := bind_some hm
    refine TO.callOC kcallB_38_true rfl rfl rfl rfl (fun _ st => C38 (Ent.at 2 rfl) (OwnS.rd (Ent.at 3 rfl)) hc10 st) ?_
    rintro _ _ ⟨v11, rfl, rfl⟩
    refine TO.s rfl rfl rfl (StepS.extract rfl rfl) ?_
    refine TO.s rfl rfl rfl (StepS.extract rfl rfl) ?_
    refine TO.s rfl rfl rfl (StepS.assign rfl) ?_
    refine TO.pure (fun _ s => Rd.one (OwnS.rd (Ent.at 0 rfl)) s) fun oc13 => ?_
    refine TO.stB (us := [I r9.1, .string r9.2.1, I r9.2.2.1, v11]) 1 [I r9.1, .string r9.2.1, I r9.2.2.1, v11] rfl rfl rfl ksizeB_41_4_true rfl rfl rfl (by intro u hu; simp only [List.mem_cons, List.not_mem_nil, or_false] at hu; rcases hu with rfl | rfl | rfl | rfl <;> first | exact oc13.1 | rfl) rfl ?_
    refine TO.code ?_
    cases hm
    refine TC.ret fun a w e s => ?_
    refine FRet.cell2r (P := Tryd.prog) (fn := Tryd.f30) e s rfl rfl rfl (Ent.at 1 rfl) kaggB_41_4_true rfl ?_
    refine ⟨_, _, rfl, ⟨(h0), (v11), rfl, rfl⟩, ?_⟩
    refine s.mono fun _ s => ?_
    replace s := Sat.front 0 rfl s
    replace s := Sat.front 4 rfl s
    replace s := Sat.erase 2 s
    replace s := Sat.erase 2 s
    replace s := Sat.erase 2 s
    exact s
  · replace hm := cond_f hc8 hm
    refine TC.skipk ?_
    refine TC.k ?_
    refine TC.k ?_
    refine TC.region ?_
    refine TO.s rfl rfl rfl (StepS.fld rfl kfieldB_45_1_1_true) ?_
    refine TO.s rfl rfl rfl (StepS.ldB rfl (Ent.at 1 rfl) kscalB_9_true rfl) ?_
    obtain ⟨r14, hc15, hm⟩ := bind_some hm
    refine TO.q rfl rfl rfl (StepQ.call kcallB_39_true rfl rfl (fun _ st => C39  hc15 st)) ?_
    refine TO.s rfl rfl rfl (StepS.not rfl) ?_
    refine TO.code ?_
    refine TC.cond rfl (fun hc16 => ?_) (fun hc16 => ?_)
    · replace hm := cond_t hc16 hm
      refine TC.k ?_
      refine TC.region ?_
      refine TO.s rfl rfl rfl (StepS.move rfl) ?_
      obtain ⟨r17, hc18, hm⟩ := bind_some hm
      refine TO.callOC kcallB_38_true rfl rfl rfl rfl (fun _ st => C38 (Ent.at 2 rfl) (OwnS.rd (Ent.at 3 rfl)) hc18 st) ?_
      rintro _ _ ⟨v19, rfl, rfl⟩
      refine TO.s rfl rfl rfl (StepS.extract rfl rfl) ?_
      refine TO.s rfl rfl rfl (StepS.extract rfl rfl) ?_
      refine TO.s rfl rfl rfl (StepS.assign rfl) ?_
      refine TO.pure (fun _ s => Rd.one (OwnS.rd (Ent.at 0 rfl)) s) fun oc21 => ?_
      refine TO.stB (us := [I r17.1, .string r17.2.1, I r17.2.2.1, v19]) 1 [I r17.1, .string r17.2.1, I r17.2.2.1, v19] rfl rfl rfl ksizeB_41_4_true rfl rfl rfl (by intro u hu; simp only [List.mem_cons, List.not_mem_nil, or_false] at hu; rcases hu with rfl | rfl | rfl | rfl <;> first | exact oc21.1 | rfl) rfl ?_
      refine TO.code ?_
      cases hm
      refine TC.ret fun a w e s => ?_
      refine FRet.cell2r (P := Tryd.prog) (fn := Tryd.f30) e s rfl rfl rfl (Ent.at 1 rfl) kaggB_41_4_true rfl ?_
      refine ⟨_, _, rfl, ⟨(h0), (v19), rfl, rfl⟩, ?_⟩
      refine s.mono fun _ s => ?_
      replace s := Sat.front 0 rfl s
      replace s := Sat.front 4 rfl s
      replace s := Sat.erase 2 s
      replace s := Sat.erase 2 s
      replace s := Sat.erase 2 s
      exact s
    · replace hm := cond_f hc16 hm
      refine TC.skipk ?_
      refine TC.k ?_
      refine TC.k ?_
      refine TC.region ?_
      refine TO.s rfl rfl rfl (StepS.fld rfl kfieldB_45_0_0_true) ?_
      refine TO.s rfl rfl rfl (StepS.ldB rfl (Ent.at 1 rfl) kscalB_3_true rfl) ?_
      refine TO.s rfl rfl rfl (StepS.cmp rfl rfl rfl) ?_
      refine TO.s rfl rfl rfl (StepS.move rfl) ?_
      refine TO.mid1 4 39 (.bool ((a1.1 == 1) || (a1.1 == 2))) ?_ ?_
      · refine bcase ((a1.1 == 1)) (fun hb22 => ?_) (fun hb22 => ?_)
        · refine TO.skip rfl rfl rfl (skipT hb22) rfl rfl ?_
          refine TO.skip rfl rfl rfl (skipT hb22) rfl rfl ?_
          refine TO.skip rfl rfl rfl (skipT hb22) rfl rfl ?_
          refine TO.s rfl rfl rfl (StepS.pickT rfl hb22 rfl) ?_
          exact TO.up1 4 0 rfl rfl (by rw [hb22]; rfl) rfl
        · refine TO.sw rfl rfl rfl hb22 rfl rfl (StepS.fld rfl kfieldB_45_0_0_true) ?_
          refine TO.sw rfl rfl rfl hb22 rfl rfl (StepS.ldB rfl (Ent.at 1 rfl) kscalB_3_true rfl) ?_
          refine TO.sw rfl rfl rfl hb22 rfl rfl (StepS.cmp rfl rfl rfl) ?_
          refine TO.s rfl rfl rfl (StepS.pickF rfl hb22 rfl) ?_
          exact TO.up1 4 0 rfl rfl (by rw [hb22]; rfl) rfl
      refine TO.s rfl rfl rfl (StepS.move rfl) ?_
      refine TO.mid1 5 45 (.bool (((a1.1 == 1) || (a1.1 == 2)) && (decide ((a1.2.2.1.size : Int) > 20)))) ?_ ?_
      · refine bcase (((a1.1 == 1) || (a1.1 == 2))) (fun hb23 => ?_) (fun hb23 => ?_)
        · refine TO.sw rfl rfl rfl hb23 rfl rfl (StepS.fld rfl kfieldB_45_2_2_true) ?_
          refine TO.sw rfl rfl rfl hb23 rfl rfl (StepS.ldB rfl (Ent.at 1 rfl) kscalB_9_true rfl) ?_
          refine TO.sw rfl rfl rfl hb23 rfl rfl (StepS.lenS kunderlying_9_some_string rfl rfl) ?_
          refine TO.sw rfl rfl rfl hb23 rfl rfl (StepS.cmp rfl rfl rfl) ?_
          refine TO.s rfl rfl rfl (StepS.pickT rfl hb23 rfl) ?_
          exact TO.up1 5 0 rfl rfl (by rw [hb23]; rfl) rfl
        · refine TO.skip rfl rfl rfl (skipF hb23) rfl rfl ?_
          refine TO.skip rfl rfl rfl (skipF hb23) rfl rfl ?_
          refine TO.skip rfl rfl rfl (skipF hb23) rfl rfl ?_
          refine TO.skip rfl rfl rfl (skipF hb23) rfl rfl ?_
          refine TO.s rfl rfl rfl (StepS.pickF rfl hb23 rfl) ?_
          exact TO.up1 5 0 rfl rfl (by rw [hb23]; rfl) rfl
      refine TO.code ?_
      refine TC.cond rfl (fun hc24 => ?_) (fun hc24 => ?_)
      · replace hm := cond_t hc24 hm
        refine TC.k ?_
        refine TC.region ?_
        refine TO.s rfl rfl rfl (StepS.move rfl) ?_
        obtain ⟨r25, hc26, hm⟩ := bind_some hm
        refine TO.callOC kcallB_38_true rfl rfl rfl rfl (fun _ st => C38 (Ent.at 2 rfl) (OwnS.rd (Ent.at 3 rfl)) hc26 st) ?_
        rintro _ _ ⟨v27, rfl, rfl⟩
        refine TO.s rfl rfl rfl (StepS.extract rfl rfl) ?_
        refine TO.s rfl rfl rfl (StepS.extract rfl rfl) ?_
        refine TO.s rfl rfl rfl (StepS.assign rfl) ?_
        refine TO.pure (fun _ s => Rd.one (OwnS.rd (Ent.at 0 rfl)) s) fun oc29 => ?_
        refine TO.stB (us := [I r25.1, .string r25.2.1, I r25.2.2.1, v27]) 1 [I r25.1, .string r25.2.1, I r25.2.2.1, v27] rfl rfl rfl ksizeB_41_4_true rfl rfl rfl (by intro u hu; simp only [List.mem_cons, List.not_mem_nil, or_false] at hu; rcases hu with rfl | rfl | rfl | rfl <;> first | exact oc29.1 | rfl) rfl ?_
        refine TO.code ?_
        cases hm
        refine TC.ret fun a w e s => ?_
        refine FRet.cell2r (P := Tryd.prog) (fn := Tryd.f30) e s rfl rfl rfl (Ent.at 1 rfl) kaggB_41_4_true rfl ?_
        refine ⟨_, _, rfl, ⟨(h0), (v27), rfl, rfl⟩, ?_⟩
        refine s.mono fun _ s => ?_
        replace s := Sat.front 0 rfl s
        replace s := Sat.front 4 rfl s
        replace s := Sat.erase 2 s
        replace s := Sat.erase 2 s
        replace s := Sat.erase 2 s
        exact s
      · replace hm := cond_f hc24 hm
        refine TC.skipk ?_
        refine TC.k ?_
        refine TC.region ?_
        refine TO.s rfl rfl rfl (StepS.ldB rfl (Ent.at 2 rfl) kscalB_51_true rfl) ?_
        refine TO.s rfl rfl rfl (StepS.fld rfl kfieldB_45_1_1_true) ?_
        refine TO.s rfl rfl rfl (StepS.ldB rfl (Ent.at 1 rfl) kscalB_9_true rfl) ?_
        obtain ⟨r30, hc31, hm⟩ := bind_some hm
        refine TO.q rfl rfl rfl (StepQ.call kcallB_40_true rfl rfl (fun _ st => C40 (OwnS.rd (Ent.at 3 rfl)) hc31 st)) ?_
        refine TO.s rfl rfl rfl (StepS.assign rfl) ?_
        refine TO.code ?_
        refine TC.k ?_
        refine TC.k ?_
        refine TC.region ?_
        refine TO.s rfl rfl rfl (StepS.fld rfl kfieldB_45_0_0_true) ?_
        refine TO.s rfl rfl rfl (StepS.ldB rfl (Ent.at 1 rfl) kscalB_3_true rfl) ?_
        refine TO.s rfl rfl rfl (StepS.cmp rfl rfl rfl) ?_
        refine TO.code ?_
        refine TC.cond rfl (fun hc32 => ?_) (fun hc32 => ?_)
        · replace hm := cond_t hc32 hm
          refine TC.k ?_
          refine TC.k ?_
          refine TC.region ?_
          refine TO.s rfl rfl rfl (StepS.move rfl) ?_
          refine TO.s rfl rfl rfl (StepS.cmp rfl rfl rfl) ?_
          refine TO.code ?_
          refine TC.cond rfl (fun hc33 => ?_) (fun hc33 => ?_)
          · replace hm := cond_t hc33 hm
            refine TC.k ?_
            refine TC.region ?_
            refine TO.s rfl rfl rfl (StepS.move rfl) ?_
            obtain ⟨r34, hc35, hm⟩ := bind_some hm
            refine TO.callOC kcallB_38_true rfl rfl rfl rfl (fun _ st => C38 (Ent.at 2 rfl) (OwnS.rd (Ent.at 3 rfl)) hc35 st) ?_
            rintro _ _ ⟨v36, rfl, rfl⟩
            refine TO.s rfl rfl rfl (StepS.extract rfl rfl) ?_
            refine TO.s rfl rfl rfl (StepS.extract rfl rfl) ?_
            refine TO.s rfl rfl rfl (StepS.assign rfl) ?_
            refine TO.pure (fun _ s => Rd.one (OwnS.rd (Ent.at 0 rfl)) s) fun oc38 => ?_
            refine TO.stB (us := [I r34.1, .string r34.2.1, I r34.2.2.1, v36]) 1 [I r34.1, .string r34.2.1, I r34.2.2.1, v36] rfl rfl rfl ksizeB_41_4_true rfl rfl rfl (by intro u hu; simp only [List.mem_cons, List.not_mem_nil, or_false] at hu; rcases hu with rfl | rfl | rfl | rfl <;> first | exact oc38.1 | rfl) rfl ?_
            refine TO.code ?_
            cases hm
            refine TC.ret fun a w e s => ?_
            refine FRet.cell2r (P := Tryd.prog) (fn := Tryd.f30) e s rfl rfl rfl (Ent.at 1 rfl) kaggB_41_4_true rfl ?_
            refine ⟨_, _, rfl, ⟨(h0), (v36), rfl, rfl⟩, ?_⟩
            refine s.mono fun _ s => ?_
            replace s := Sat.front 0 rfl s
            replace s := Sat.front 4 rfl s
            replace s := Sat.erase 2 s
            replace s := Sat.erase 2 s
            replace s := Sat.erase 2 s
            exact s
          · replace hm := cond_f hc33 hm
            refine TC.skipk ?_
            refine TC.k ?_
            refine TC.region ?_
            refine TO.s rfl rfl rfl (StepS.fld rfl kfieldB_45_1_1_true) ?_
            refine TO.s rfl rfl rfl (StepS.ldB rfl (Ent.at 1 rfl) kscalB_9_true rfl) ?_
            obtain ⟨⟨r39, r40⟩, hc41, hm⟩ := bind_some hm
            refine TO.q rfl rfl rfl (StepQ.call kcallB_32_true rfl rfl (fun _ st => C32  hc41 st)) ?_
            refine TO.s rfl rfl rfl (StepS.move rfl) ?_
            refine TO.s rfl rfl rfl (StepS.extract rfl rfl) ?_
            refine TO.s rfl rfl rfl (StepS.extract rfl rfl) ?_
            refine TO.s rfl rfl rfl (StepS.assign rfl) ?_
            refine TO.s rfl rfl rfl (StepS.assign rfl) ?_
            refine TO.code ?_
            refine TC.k ?_
            refine TC.k ?_
            refine TC.region ?_
            refine TO.s rfl rfl rfl (StepS.ldB rfl (Ent.at 2 rfl) kscalB_51_true rfl) ?_
            refine TO.s rfl rfl rfl (StepS.move rfl) ?_
            obtain ⟨r42, hc43, hm⟩ := bind_some hm
            refine TO.q rfl rfl rfl (StepQ.call kcallB_40_true rfl rfl (fun _ st => C40 (OwnS.rd (Ent.at 3 rfl)) hc43 st)) ?_
            refine TO.s rfl rfl rfl (StepS.cmp rfl rfl rfl) ?_
            refine TO.code ?_
            refine TC.cond rfl (fun hc44 => ?_) (fun hc44 => ?_)
            · replace hm := cond_t hc44 hm
              refine TC.k ?_
              refine TC.region ?_
              refine TO.s rfl rfl rfl (StepS.move rfl) ?_
              obtain ⟨r45, hc46, hm⟩ := bind_some hm
              refine TO.callOC kcallB_38_true rfl rfl rfl rfl (fun _ st => C38 (Ent.at 2 rfl) (OwnS.rd (Ent.at 3 rfl)) hc46 st) ?_
              rintro _ _ ⟨v47, rfl, rfl⟩
              refine TO.s rfl rfl rfl (StepS.extract rfl rfl) ?_
              refine TO.s rfl rfl rfl (StepS.extract rfl rfl) ?_
              refine TO.s rfl rfl rfl (StepS.assign rfl) ?_
              refine TO.pure (fun _ s => Rd.one (OwnS.rd (Ent.at 0 rfl)) s) fun oc49 => ?_
              refine TO.stB (us := [I r45.1, .string r45.2.1, I r45.2.2.1, v47]) 1 [I r45.1, .string r45.2.1, I r45.2.2.1, v47] rfl rfl rfl ksizeB_41_4_true rfl rfl rfl (by intro u hu; simp only [List.mem_cons, List.not_mem_nil, or_false] at hu; rcases hu with rfl | rfl | rfl | rfl <;> first | exact oc49.1 | rfl) rfl ?_
              refine TO.code ?_
              cases hm
              refine TC.ret fun a w e s => ?_
              refine FRet.cell2r (P := Tryd.prog) (fn := Tryd.f30) e s rfl rfl rfl (Ent.at 1 rfl) kaggB_41_4_true rfl ?_
              refine ⟨_, _, rfl, ⟨(h0), (v47), rfl, rfl⟩, ?_⟩
              refine s.mono fun _ s => ?_
              replace s := Sat.front 0 rfl s
              replace s := Sat.front 4 rfl s
              replace s := Sat.erase 2 s
              replace s := Sat.erase 2 s
              replace s := Sat.erase 2 s
              exact s
            · replace hm := cond_f hc44 hm
              refine TC.skipk ?_
              refine TC.k ?_
              refine TC.k ?_
              refine TC.region ?_
              refine TO.s rfl rfl rfl (StepS.ldB rfl (Ent.at 2 rfl) kscalB_51_true rfl) ?_
              refine TO.s rfl rfl rfl (StepS.lenm rfl (OwnS.rd (Ent.at 3 rfl)) ksliceB_51_84_3_true rfl) ?_
              refine TO.s rfl rfl rfl (StepS.cmp rfl rfl rfl) ?_
              refine TO.code ?_
              refine TC.cond rfl (fun hc50 => ?_) (fun hc50 => ?_)
              · replace hm := cond_t hc50 hm
                refine TC.k ?_
                refine TC.region ?_
                refine TO.s rfl rfl rfl (StepS.move rfl) ?_
                obtain ⟨r51, hc52, hm⟩ := bind_some hm
                refine TO.callOC kcallB_38_true rfl rfl rfl rfl (fun _ st => C38 (Ent.at 2 rfl) (OwnS.rd (Ent.at 3 rfl)) hc52 st) ?_
                rintro _ _ ⟨v53, rfl, rfl⟩
                refine TO.s rfl rfl rfl (StepS.extract rfl rfl) ?_
                refine TO.s rfl rfl rfl (StepS.extract rfl rfl) ?_
                refine TO.s rfl rfl rfl (StepS.assign rfl) ?_
                refine TO.pure (fun _ s => Rd.one (OwnS.rd (Ent.at 0 rfl)) s) fun oc55 => ?_
                refine TO.stB (us := [I r51.1, .string r51.2.1, I r51.2.2.1, v53]) 1 [I r51.1, .string r51.2.1, I r51.2.2.1, v53] rfl rfl rfl ksizeB_41_4_true rfl rfl rfl (by intro u hu; simp only [List.mem_cons, List.not_mem_nil, or_false] at hu; rcases hu with rfl | rfl | rfl | rfl <;> first | exact oc55.1 | rfl) rfl ?_
                refine TO.code ?_
                cases hm
                refine TC.ret fun a w e s => ?_
                refine FRet.cell2r (P := Tryd.prog) (fn := Tryd.f30) e s rfl rfl rfl (Ent.at 1 rfl) kaggB_41_4_true rfl ?_
                refine ⟨_, _, rfl, ⟨(h0), (v53), rfl, rfl⟩, ?_⟩
                refine s.mono fun _ s => ?_
                replace s := Sat.front 0 rfl s
                replace s := Sat.front 4 rfl s
                replace s := Sat.erase 2 s
                replace s := Sat.erase 2 s
                replace s := Sat.erase 2 s
                exact s
              · replace hm := cond_f hc50 hm
                refine TC.skipk ?_
                refine TC.k ?_
                obtain ⟨y59, hj60, hm⟩ := bind_some hm
                first | refine TC.cutM (fun a w => ∃ v57 : Value, Mid 209 B [(4, v57), (5, .pointer (some ⟨b6, 0, none⟩))] (OwnS 84 3 v57 (y59.map cTssi) :: Bx b6 41 [I 0, .string ByteArray.empty, I 0, .slice none 0 0] :: Bx b5 45 [I a1.1, .string a1.2.1, .string a1.2.2.1, I a1.2.2.2] :: Bx b4 51 [h0] :: OwnS 84 3 h0 (a0.map cTssi) :: L) a w) ?_ ?_ | refine TC.cutX (fun a w => ∃ v57 : Value, Mid 209 B [(4, v57), (5, .pointer (some ⟨b6, 0, none⟩))] (OwnS 84 3 v57 (y59.map cTssi) :: Bx b6 41 [I 0, .string ByteArray.empty, I 0, .slice none 0 0] :: Bx b5 45 [I a1.1, .string a1.2.1, .string a1.2.2.1, I a1.2.2.2] :: Bx b4 51 [h0] :: OwnS 84 3 h0 (a0.map cTssi) :: L) a w) ?_ ?_
                · obtain ⟨yq56_2_1, hkq56_2_2, hj60⟩ := bind_some hj60
                  obtain ⟨yq56_9_1, hkq56_9_2, hj60⟩ := bind_some hj60
                  refine TC.region_any (Bx b6 41 [I 0, .string ByteArray.empty, I 0, .slice none 0 0] :: Bx b5 45 [I a1.1, .string a1.2.1, .string a1.2.2.1, I a1.2.2.2] :: Bx b4 51 [h0] :: OwnS 84 3 h0 (a0.map cTssi) :: L) 12 13 kfollows_mixedOrders_true rfl ?_
                  refine TA.take 1 rfl rfl rfl rfl (StepS.ldB rfl (Ent.at 2 rfl) kscalB_51_true rfl) (by kernel_rfl) (by kernel_rfl) (by kernel_rfl) (by kernel_rfl) (by kernel_rfl) (fun _ s => s) ?_
                  refine TA.takeW 3 rfl rfl rfl rfl (StepS.fld rfl kfieldB_45_1_1_true) (by kernel_rfl) (by kernel_rfl) (by kernel_rfl) rfl (.inr (fun _ s => s)) ?_
                  refine TA.take 4 rfl rfl rfl rfl (StepS.ldB rfl (Ent.at 1 rfl) kscalB_9_true rfl) (by kernel_rfl) (by kernel_rfl) (by kernel_rfl) (by kernel_rfl) (by kernel_rfl) (fun _ s => s) ?_
                  refine TA.takeW 5 rfl rfl rfl rfl (StepS.fld rfl kfieldB_45_2_2_true) (by kernel_rfl) (by kernel_rfl) (by kernel_rfl) rfl (.inr (fun _ s => s)) ?_
                  refine TA.take 6 rfl rfl rfl rfl (StepS.ldB rfl (Ent.at 1 rfl) kscalB_9_true rfl) (by kernel_rfl) (by kernel_rfl) (by kernel_rfl) (by kernel_rfl) (by kernel_rfl) (fun _ s => s) ?_
                  refine TA.takeW 7 rfl rfl rfl rfl (StepS.build (cs := [.string a1.2.1, .string a1.2.2.1, I 0]) rfl (by kernel_rfl)) (by kernel_rfl) (by kernel_rfl) (by kernel_rfl) rfl (.inr (fun _ s => s)) ?_
                  refine TA.takeW 10 rfl rfl rfl rfl (StepS.build (cs := [I 0, .string ByteArray.empty, I 0, .slice none 0 0]) rfl (by kernel_rfl)) (by kernel_rfl) (by kernel_rfl) (by kernel_rfl) rfl (.inr (fun _ s => s)) ?_
                  refine TA.all2 (i := 0) (j := 8) (by kernel_rfl) ?_ ?_
                  · refine TB.of rfl ?_
                    refine TO.lit0 (f := cTssi) ksliceB_51_84_3_true rfl fun vq56_0_1 => ?_
                    refine TA.back (.inr (fun _ s => Sat.by [4, 4, 4, 4] 4 1 (by kernel_rfl) s)) ?_
                    refine TA.asL (L' := (OwnS 84 3 vq56_0_1 (([] : List (ByteArray × ByteArray × Int)).map cTssi) :: Bx b6 41 [I 0, .string ByteArray.empty, I 0, .slice none 0 0] :: Bx b5 45 [I a1.1, .string a1.2.1, .string a1.2.2.1, I a1.2.2.2] :: Bx b4 51 [h0] :: OwnS 84 3 h0 (a0.map cTssi) :: L)) (listed' := #[true, true, false, true, true, true, true, true, false, false, true, false, false]) (by kernel_rfl) (by kernel_rfl) ?_
                    refine TA.all2 (i := 2) (j := 8) (by kernel_rfl) ?_ ?_
                    · refine TB.of rfl ?_
                      refine TO.app (k := 0) (f := cTssi) kelemB_51_84_3_40_true (by decide) rfl rfl rfl (OwnS.rd (Ent.at 4 rfl)) hkq56_2_2 (fun x c hc => by simp [Value.oneCell'] at hc ⊢; first | (obtain rfl := hc; rfl) | (rcases hc with rfl | rfl | rfl <;> rfl)) rfl rfl fun vq56_2_3 => ?_
                      refine TA.back (.inr (fun _ s => Sat.by [4, 4, 4, 4] 4 1 (by kernel_rfl) s)) ?_
                      refine TA.asL (L' := (OwnS 84 3 vq56_2_3 (yq56_2_1.map cTssi) :: Bx b6 41 [I 0, .string ByteArray.empty, I 0, .slice none 0 0] :: Bx b5 45 [I a1.1, .string a1.2.1, .string a1.2.2.1, I a1.2.2.2] :: Bx b4 51 [h0] :: OwnS 84 3 h0 (a0.map cTssi) :: L)) (listed' := #[true, true, true, true, true, true, true, true, false, false, true, false, false]) (by kernel_rfl) (by kernel_rfl) ?_
                      refine TA.all1 (i := 8) (by kernel_rfl) ?_
                      refine TB.of rfl ?_
                      refine TO.litS (f := cTssi) ([(a1.2.1, a1.2.2.1, 0)] : List (ByteArray × ByteArray × Int)) kelemB_51_84_3_40_true kinfo_84_bind_zero_some_agg_string_ByteArray_empty_string_ByteArray_empty_I_0 rfl rfl (fun _ => rfl) rfl rfl (by kernel_rfl) rfl fun vq56_8_1 => ?_
                      refine TA.back (.inr (fun _ s => Sat.by [5, 5, 5, 5] 4 2 (by kernel_rfl) s)) ?_
                      refine TA.asL (L' := (OwnS 84 3 vq56_8_1 (([(a1.2.1, a1.2.2.1, 0)] : List (ByteArray × ByteArray × Int)).map cTssi) :: OwnS 84 3 vq56_2_3 (yq56_2_1.map cTssi) :: Bx b6 41 [I 0, .string ByteArray.empty, I 0, .slice none 0 0] :: Bx b5 45 [I a1.1, .string a1.2.1, .string a1.2.2.1, I a1.2.2.2] :: Bx b4 51 [h0] :: OwnS 84 3 h0 (a0.map cTssi) :: L)) (listed' := #[true, true, true, true, true, true, true, true, true, false, true, false, false]) (by kernel_rfl) (by kernel_rfl) ?_
                      refine TA.all1 (i := 9) (by kernel_rfl) ?_
                      refine TB.of rfl ?_
                      refine TO.app (k := 1) (f := cTssi) kelemB_51_84_3_40_true (by decide) rfl rfl rfl (OwnS.rd (Ent.at 0 rfl)) hkq56_9_2 (fun x c hc => by simp [Value.oneCell'] at hc ⊢; first | (obtain rfl := hc; rfl) | (rcases hc with rfl | rfl | rfl <;> rfl)) rfl rfl fun vq56_9_3 => ?_
                      refine TA.back (.inr (fun _ s => Sat.by [5, 5, 5, 5] 4 2 (by kernel_rfl) s)) ?_
                      refine TA.asL (L' := (OwnS 84 3 vq56_8_1 (([(a1.2.1, a1.2.2.1, 0)] : List (ByteArray × ByteArray × Int)).map cTssi) :: OwnS 84 3 vq56_9_3 (yq56_9_1.map cTssi) :: Bx b6 41 [I 0, .string ByteArray.empty, I 0, .slice none 0 0] :: Bx b5 45 [I a1.1, .string a1.2.1, .string a1.2.2.1, I a1.2.2.2] :: Bx b4 51 [h0] :: OwnS 84 3 h0 (a0.map cTssi) :: L)) (listed' := #[true, true, true, true, true, true, true, true, true, true, true, false, false]) (by kernel_rfl) (by kernel_rfl) ?_
                      refine TA.takeW 11 rfl rfl rfl rfl (StepS.assign rfl) (by kernel_rfl) (by kernel_rfl) (by kernel_rfl) rfl (.inr (fun _ s => Sat.by [5, 5, 5, 5] 4 2 (by kernel_rfl) s)) ?_
                      refine TA.all1 (i := 12) (by kernel_rfl) ?_
                      refine TB.of rfl ?_
                      refine TO.stB (us := [I 0, .string ByteArray.empty, I 0, .slice none 0 0]) 2 [I 0, .string ByteArray.empty, I 0, .slice none 0 0] rfl rfl rfl ksizeB_41_4_true rfl rfl rfl (by simp [Value.oneCell']) rfl ?_
                      refine TA.back (.inl (by kernel_rfl)) ?_
                      refine TA.asL (L' := (OwnS 84 3 vq56_8_1 (([(a1.2.1, a1.2.2.1, 0)] : List (ByteArray × ByteArray × Int)).map cTssi) :: OwnS 84 3 vq56_9_3 (yq56_9_1.map cTssi) :: Bx b6 41 [I 0, .string ByteArray.empty, I 0, .slice none 0 0] :: Bx b5 45 [I a1.1, .string a1.2.1, .string a1.2.2.1, I a1.2.2.2] :: Bx b4 51 [h0] :: OwnS 84 3 h0 (a0.map cTssi) :: L)) (listed' := #[true, true, true, true, true, true, true, true, true, true, true, true, true]) (by kernel_rfl) (by kernel_rfl) ?_
                      cases hj60
                      refine TA.nil (by kernel_rfl) fun a w e s => ?_
                      exact ⟨vq56_9_3, e.sub (lk_of_allIn ⟨rfl, rfl, trivial⟩), s.mono fun _ => Sat.dropN 1⟩
                    · refine TB.of rfl ?_
                      refine TO.litS (f := cTssi) ([(a1.2.1, a1.2.2.1, 0)] : List (ByteArray × ByteArray × Int)) kelemB_51_84_3_40_true kinfo_84_bind_zero_some_agg_string_ByteArray_empty_string_ByteArray_empty_I_0 rfl rfl (fun _ => rfl) rfl rfl (by kernel_rfl) rfl fun vq56_8_1 => ?_
                      refine TA.back (.inr (fun _ s => Sat.by [5, 5, 5, 5] 4 2 (by kernel_rfl) s)) ?_
                      refine TA.asL (L' := (OwnS 84 3 vq56_8_1 (([(a1.2.1, a1.2.2.1, 0)] : List (ByteArray × ByteArray × Int)).map cTssi) :: OwnS 84 3 vq56_0_1 (([] : List (ByteArray × ByteArray × Int)).map cTssi) :: Bx b6 41 [I 0, .string ByteArray.empty, I 0, .slice none 0 0] :: Bx b5 45 [I a1.1, .string a1.2.1, .string a1.2.2.1, I a1.2.2.2] :: Bx b4 51 [h0] :: OwnS 84 3 h0 (a0.map cTssi) :: L)) (listed' := #[true, true, false, true, true, true, true, true, true, false, true, false, false]) (by kernel_rfl) (by kernel_rfl) ?_
                      refine TA.all1 (i := 2) (by kernel_rfl) ?_
                      refine TB.of rfl ?_
                      refine TO.app (k := 1) (f := cTssi) kelemB_51_84_3_40_true (by decide) rfl rfl rfl (OwnS.rd (Ent.at 5 rfl)) hkq56_2_2 (fun x c hc => by simp [Value.oneCell'] at hc ⊢; first | (obtain rfl := hc; rfl) | (rcases hc with rfl | rfl | rfl <;> rfl)) rfl rfl fun vq56_2_3 => ?_
                      refine TA.back (.inr (fun _ s => Sat.by [5, 5, 5, 5] 4 2 (by kernel_rfl) s)) ?_
                      refine TA.asL (L' := (OwnS 84 3 vq56_8_1 (([(a1.2.1, a1.2.2.1, 0)] : List (ByteArray × ByteArray × Int)).map cTssi) :: OwnS 84 3 vq56_2_3 (yq56_2_1.map cTssi) :: Bx b6 41 [I 0, .string ByteArray.empty, I 0, .slice none 0 0] :: Bx b5 45 [I a1.1, .string a1.2.1, .string a1.2.2.1, I a1.2.2.2] :: Bx b4 51 [h0] :: OwnS 84 3 h0 (a0.map cTssi) :: L)) (listed' := #[true, true, true, true, true, true, true, true, true, false, true, false, false]) (by kernel_rfl) (by kernel_rfl) ?_
                      refine TA.all1 (i := 9) (by kernel_rfl) ?_
                      refine TB.of rfl ?_
                      refine TO.app (k := 1) (f := cTssi) kelemB_51_84_3_40_true (by decide) rfl rfl rfl (OwnS.rd (Ent.at 0 rfl)) hkq56_9_2 (fun x c hc => by simp [Value.oneCell'] at hc ⊢; first | (obtain rfl := hc; rfl) | (rcases hc with rfl | rfl | rfl <;> rfl)) rfl rfl fun vq56_9_3 => ?_
                      refine TA.back (.inr (fun _ s => Sat.by [5, 5, 5, 5] 4 2 (by kernel_rfl) s)) ?_
                      refine TA.asL (L' := (OwnS 84 3 vq56_8_1 (([(a1.2.1, a1.2.2.1, 0)] : List (ByteArray × ByteArray × Int)).map cTssi) :: OwnS 84 3 vq56_9_3 (yq56_9_1.map cTssi) :: Bx b6 41 [I 0, .string ByteArray.empty, I 0, .slice none 0 0] :: Bx b5 45 [I a1.1, .string a1.2.1, .string a1.2.2.1, I a1.2.2.2] :: Bx b4 51 [h0] :: OwnS 84 3 h0 (a0.map cTssi) :: L)) (listed' := #[true, true, true, true, true, true, true, true, true, true, true, false, false]) (by kernel_rfl) (by kernel_rfl) ?_
                      refine TA.takeW 11 rfl rfl rfl rfl (StepS.assign rfl) (by kernel_rfl) (by kernel_rfl) (by kernel_rfl) rfl (.inr (fun _ s => Sat.by [5, 5, 5, 5] 4 2 (by kernel_rfl) s)) ?_
                      refine TA.all1 (i := 12) (by kernel_rfl) ?_
                      refine TB.of rfl ?_
                      refine TO.stB (us := [I 0, .string ByteArray.empty, I 0, .slice none 0 0]) 2 [I 0, .string ByteArray.empty, I 0, .slice none 0 0] rfl rfl rfl ksizeB_41_4_true rfl rfl rfl (by simp [Value.oneCell']) rfl ?_
                      refine TA.back (.inl (by kernel_rfl)) ?_
                      refine TA.asL (L' := (OwnS 84 3 vq56_8_1 (([(a1.2.1, a1.2.2.1, 0)] : List (ByteArray × ByteArray × Int)).map cTssi) :: OwnS 84 3 vq56_9_3 (yq56_9_1.map cTssi) :: Bx b6 41 [I 0, .string ByteArray.empty, I 0, .slice none 0 0] :: Bx b5 45 [I a1.1, .string a1.2.1, .string a1.2.2.1, I a1.2.2.2] :: Bx b4 51 [h0] :: OwnS 84 3 h0 (a0.map cTssi) :: L)) (listed' := #[true, true, true, true, true, true, true, true, true, true, true, true, true]) (by kernel_rfl) (by kernel_rfl) ?_
                      cases hj60
                      refine TA.nil (by kernel_rfl) fun a w e s => ?_
                      exact ⟨vq56_9_3, e.sub (lk_of_allIn ⟨rfl, rfl, trivial⟩), s.mono fun _ => Sat.dropN 1⟩
                  · refine TB.of rfl ?_
                    refine TO.litS (f := cTssi) ([(a1.2.1, a1.2.2.1, 0)] : List (ByteArray × ByteArray × Int)) kelemB_51_84_3_40_true kinfo_84_bind_zero_some_agg_string_ByteArray_empty_string_ByteArray_empty_I_0 rfl rfl (fun _ => rfl) rfl rfl (by kernel_rfl) rfl fun vq56_8_1 => ?_
                    refine TA.back (.inr (fun _ s => Sat.by [4, 4, 4, 4] 4 1 (by kernel_rfl) s)) ?_
                    refine TA.asL (L' := (OwnS 84 3 vq56_8_1 (([(a1.2.1, a1.2.2.1, 0)] : List (ByteArray × ByteArray × Int)).map cTssi) :: Bx b6 41 [I 0, .string ByteArray.empty, I 0, .slice none 0 0] :: Bx b5 45 [I a1.1, .string a1.2.1, .string a1.2.2.1, I a1.2.2.2] :: Bx b4 51 [h0] :: OwnS 84 3 h0 (a0.map cTssi) :: L)) (listed' := #[false, true, false, true, true, true, true, true, true, false, true, false, false]) (by kernel_rfl) (by kernel_rfl) ?_
                    refine TA.all1 (i := 0) (by kernel_rfl) ?_
                    refine TB.of rfl ?_
                    refine TO.lit0 (f := cTssi) ksliceB_51_84_3_true rfl fun vq56_0_1 => ?_
                    refine TA.back (.inr (fun _ s => Sat.by [5, 5, 5, 5] 4 2 (by kernel_rfl) s)) ?_
                    refine TA.asL (L' := (OwnS 84 3 vq56_0_1 (([] : List (ByteArray × ByteArray × Int)).map cTssi) :: OwnS 84 3 vq56_8_1 (([(a1.2.1, a1.2.2.1, 0)] : List (ByteArray × ByteArray × Int)).map cTssi) :: Bx b6 41 [I 0, .string ByteArray.empty, I 0, .slice none 0 0] :: Bx b5 45 [I a1.1, .string a1.2.1, .string a1.2.2.1, I a1.2.2.2] :: Bx b4 51 [h0] :: OwnS 84 3 h0 (a0.map cTssi) :: L)) (listed' := #[true, true, false, true, true, true, true, true, true, false, true, false, false]) (by kernel_rfl) (by kernel_rfl) ?_
                    refine TA.all1 (i := 2) (by kernel_rfl) ?_
                    refine TB.of rfl ?_
                    refine TO.app (k := 0) (f := cTssi) kelemB_51_84_3_40_true (by decide) rfl rfl rfl (OwnS.rd (Ent.at 5 rfl)) hkq56_2_2 (fun x c hc => by simp [Value.oneCell'] at hc ⊢; first | (obtain rfl := hc; rfl) | (rcases hc with rfl | rfl | rfl <;> rfl)) rfl rfl fun vq56_2_3 => ?_
                    refine TA.back (.inr (fun _ s => Sat.by [5, 5, 5, 5] 4 2 (by kernel_rfl) s)) ?_
                    refine TA.asL (L' := (OwnS 84 3 vq56_2_3 (yq56_2_1.map cTssi) :: OwnS 84 3 vq56_8_1 (([(a1.2.1, a1.2.2.1, 0)] : List (ByteArray × ByteArray × Int)).map cTssi) :: Bx b6 41 [I 0, .string ByteArray.empty, I 0, .slice none 0 0] :: Bx b5 45 [I a1.1, .string a1.2.1, .string a1.2.2.1, I a1.2.2.2] :: Bx b4 51 [h0] :: OwnS 84 3 h0 (a0.map cTssi) :: L)) (listed' := #[true, true, true, true, true, true, true, true, true, false, true, false, false]) (by kernel_rfl) (by kernel_rfl) ?_
                    refine TA.all1 (i := 9) (by kernel_rfl) ?_
                    refine TB.of rfl ?_
                    refine TO.app (k := 0) (f := cTssi) kelemB_51_84_3_40_true (by decide) rfl rfl rfl (OwnS.rd (Ent.at 1 rfl)) hkq56_9_2 (fun x c hc => by simp [Value.oneCell'] at hc ⊢; first | (obtain rfl := hc; rfl) | (rcases hc with rfl | rfl | rfl <;> rfl)) rfl rfl fun vq56_9_3 => ?_
                    refine TA.back (.inr (fun _ s => Sat.by [5, 5, 5, 5] 4 2 (by kernel_rfl) s)) ?_
                    refine TA.asL (L' := (OwnS 84 3 vq56_9_3 (yq56_9_1.map cTssi) :: OwnS 84 3 vq56_8_1 (([(a1.2.1, a1.2.2.1, 0)] : List (ByteArray × ByteArray × Int)).map cTssi) :: Bx b6 41 [I 0, .string ByteArray.empty, I 0, .slice none 0 0] :: Bx b5 45 [I a1.1, .string a1.2.1, .string a1.2.2.1, I a1.2.2.2] :: Bx b4 51 [h0] :: OwnS 84 3 h0 (a0.map cTssi) :: L)) (listed' := #[true, true, true, true, true, true, true, true, true, true, true, false, false]) (by kernel_rfl) (by kernel_rfl) ?_
                    refine TA.takeW 11 rfl rfl rfl rfl (StepS.assign rfl) (by kernel_rfl) (by kernel_rfl) (by kernel_rfl) rfl (.inr (fun _ s => Sat.by [5, 5, 5, 5] 4 2 (by kernel_rfl) s)) ?_
                    refine TA.all1 (i := 12) (by kernel_rfl) ?_
                    refine TB.of rfl ?_
                    refine TO.stB (us := [I 0, .string ByteArray.empty, I 0, .slice none 0 0]) 2 [I 0, .string ByteArray.empty, I 0, .slice none 0 0] rfl rfl rfl ksizeB_41_4_true rfl rfl rfl (by simp [Value.oneCell']) rfl ?_
                    refine TA.back (.inl (by kernel_rfl)) ?_
                    refine TA.asL (L' := (OwnS 84 3 vq56_9_3 (yq56_9_1.map cTssi) :: OwnS 84 3 vq56_8_1 (([(a1.2.1, a1.2.2.1, 0)] : List (ByteArray × ByteArray × Int)).map cTssi) :: Bx b6 41 [I 0, .string ByteArray.empty, I 0, .slice none 0 0] :: Bx b5 45 [I a1.1, .string a1.2.1, .string a1.2.2.1, I a1.2.2.2] :: Bx b4 51 [h0] :: OwnS 84 3 h0 (a0.map cTssi) :: L)) (listed' := #[true, true, true, true, true, true, true, true, true, true, true, true, true]) (by kernel_rfl) (by kernel_rfl) ?_
                    cases hj60
                    refine TA.nil (by kernel_rfl) fun a w e s => ?_
                    exact ⟨vq56_9_3, e.sub (lk_of_allIn ⟨rfl, rfl, trivial⟩), s.mono fun _ s => (by exact Sat.by [5, 5, 5, 5, 4] 5 1 (by kernel_rfl) s)⟩
                · intro a w ⟨v57, he, hs⟩
                  refine TC.use ?_ he hs
                  cases hm
                  refine TC.ret fun a w e s => ?_
                  refine FRet.cell2r (P := Tryd.prog) (fn := Tryd.f30) e s rfl rfl rfl (Ent.at 1 rfl) kaggB_41_4_true rfl ?_
                  refine ⟨_, _, rfl, ⟨(v57), (.slice none 0 0), rfl, rfl⟩, ?_⟩
                  refine s.mono fun _ s => ?_
                  replace s := Sat.nilS (e := 9) (sz := 1) (f := cS) s
                  replace s := Sat.front 1 rfl s
                  replace s := Sat.erase 2 s
                  replace s := Sat.erase 2 s
                  replace s := Sat.erase 2 s
                  replace s := Sat.erase 2 s
                  exact s
        · replace hm := cond_f hc32 hm
          refine TC.skipk ?_
          refine TC.k ?_
          refine TC.k ?_
          refine TC.region ?_
          refine TO.s rfl rfl rfl (StepS.fld rfl kfieldB_45_0_0_true) ?_
          refine TO.s rfl rfl rfl (StepS.ldB rfl (Ent.at 1 rfl) kscalB_3_true rfl) ?_
          refine TO.s rfl rfl rfl (StepS.cmp rfl rfl rfl) ?_
          refine TO.s rfl rfl rfl (StepS.move rfl) ?_
          refine TO.mid1 4 102 (.bool ((a1.1 == 3) && (sEq a1.2.1 (ByteArray.mk #[47])))) ?_ ?_
          · refine bcase ((a1.1 == 3)) (fun hb61 => ?_) (fun hb61 => ?_)
            · refine TO.sw rfl rfl rfl hb61 rfl rfl (StepS.fld rfl kfieldB_45_1_1_true) ?_
              refine TO.sw rfl rfl rfl hb61 rfl rfl (StepS.ldB rfl (Ent.at 1 rfl) kscalB_9_true rfl) ?_
              refine TO.sw rfl rfl rfl hb61 rfl rfl (StepS.cmpS kunderlying_9_some_string rfl rfl rfl) ?_
              refine TO.s rfl rfl rfl (StepS.pickT rfl hb61 rfl) ?_
              exact TO.up1 4 0 rfl rfl (by rw [hb61]; rfl) rfl
            · refine TO.skip rfl rfl rfl (skipF hb61) rfl rfl ?_
              refine TO.skip rfl rfl rfl (skipF hb61) rfl rfl ?_
              refine TO.skip rfl rfl rfl (skipF hb61) rfl rfl ?_
              refine TO.s rfl rfl rfl (StepS.pickF rfl hb61 rfl) ?_
              exact TO.up1 4 0 rfl rfl (by rw [hb61]; rfl) rfl
          refine TO.code ?_
          refine TC.cond rfl (fun hc62 => ?_) (fun hc62 => ?_)
          · replace hm := cond_t hc62 hm
            refine TC.k ?_
            refine TC.region ?_
            refine TO.s rfl rfl rfl (StepS.move rfl) ?_
            obtain ⟨r63, hc64, hm⟩ := bind_some hm
            refine TO.callOC kcallB_38_true rfl rfl rfl rfl (fun _ st => C38 (Ent.at 2 rfl) (OwnS.rd (Ent.at 3 rfl)) hc64 st) ?_
            rintro _ _ ⟨v65, rfl, rfl⟩
            refine TO.s rfl rfl rfl (StepS.extract rfl rfl) ?_
            refine TO.s rfl rfl rfl (StepS.extract rfl rfl) ?_
            refine TO.s rfl rfl rfl (StepS.assign rfl) ?_
            refine TO.pure (fun _ s => Rd.one (OwnS.rd (Ent.at 0 rfl)) s) fun oc67 => ?_
            refine TO.stB (us := [I r63.1, .string r63.2.1, I r63.2.2.1, v65]) 1 [I r63.1, .string r63.2.1, I r63.2.2.1, v65] rfl rfl rfl ksizeB_41_4_true rfl rfl rfl (by intro u hu; simp only [List.mem_cons, List.not_mem_nil, or_false] at hu; rcases hu with rfl | rfl | rfl | rfl <;> first | exact oc67.1 | rfl) rfl ?_
            refine TO.code ?_
            cases hm
            refine TC.ret fun a w e s => ?_
            refine FRet.cell2r (P := Tryd.prog) (fn := Tryd.f30) e s rfl rfl rfl (Ent.at 1 rfl) kaggB_41_4_true rfl ?_
            refine ⟨_, _, rfl, ⟨(h0), (v65), rfl, rfl⟩, ?_⟩
            refine s.mono fun _ s => ?_
            replace s := Sat.front 0 rfl s
            replace s := Sat.front 4 rfl s
            replace s := Sat.erase 2 s
            replace s := Sat.erase 2 s
            replace s := Sat.erase 2 s
            exact s
          · replace hm := cond_f hc62 hm
            refine TC.skipk ?_
            refine TC.k ?_
            refine TC.k ?_
            refine TC.region ?_
            refine TO.s rfl rfl rfl (StepS.move rfl) ?_
            refine TO.s rfl rfl rfl (StepS.cmp rfl rfl rfl) ?_
            refine TO.code ?_
            refine TC.cond rfl (fun hc68 => ?_) (fun hc68 => ?_)
            · replace hm := cond_t hc68 hm
              refine TC.k ?_
              refine TC.region ?_
              refine TO.s rfl rfl rfl (StepS.move rfl) ?_
              obtain ⟨r69, hc70, hm⟩ := bind_some hm
              refine TO.callOC kcallB_38_true rfl rfl rfl rfl (fun _ st => C38 (Ent.at 2 rfl) (OwnS.rd (Ent.at 3 rfl)) hc70 st) ?_
              rintro _ _ ⟨v71, rfl, rfl⟩
              refine TO.s rfl rfl rfl (StepS.extract rfl rfl) ?_
              refine TO.s rfl rfl rfl (StepS.extract rfl rfl) ?_
              refine TO.s rfl rfl rfl (StepS.assign rfl) ?_
              refine TO.pure (fun _ s => Rd.one (OwnS.rd (Ent.at 0 rfl)) s) fun oc73 => ?_
              refine TO.stB (us := [I r69.1, .string r69.2.1, I r69.2.2.1, v71]) 1 [I r69.1, .string r69.2.1, I r69.2.2.1, v71] rfl rfl rfl ksizeB_41_4_true rfl rfl rfl (by intro u hu; simp only [List.mem_cons, List.not_mem_nil, or_false] at hu; rcases hu with rfl | rfl | rfl | rfl <;> first | exact oc73.1 | rfl) rfl ?_
              refine TO.code ?_
              cases hm
              refine TC.ret fun a w e s => ?_
              refine FRet.cell2r (P := Tryd.prog) (fn := Tryd.f30) e s rfl rfl rfl (Ent.at 1 rfl) kaggB_41_4_true rfl ?_
              refine ⟨_, _, rfl, ⟨(h0), (v71), rfl, rfl⟩, ?_⟩
              refine s.mono fun _ s => ?_
              replace s := Sat.front 0 rfl s
              replace s := Sat.front 4 rfl s
              replace s := Sat.erase 2 s
              replace s := Sat.erase 2 s
              replace s := Sat.erase 2 s
              exact s
            · replace hm := cond_f hc68 hm
              refine TC.skipk ?_
              refine TC.k ?_
              refine TC.k ?_
              refine TC.region ?_
              refine TO.s rfl rfl rfl (StepS.fld rfl kfieldB_45_0_0_true) ?_
              refine TO.s rfl rfl rfl (StepS.ldB rfl (Ent.at 1 rfl) kscalB_3_true rfl) ?_
              refine TO.s rfl rfl rfl (StepS.cmp rfl rfl rfl) ?_
              refine TO.code ?_
              refine TC.cond rfl (fun hc74 => ?_) (fun hc74 => ?_)
              · replace hm := cond_t hc74 hm
                refine TC.k ?_
                refine TC.region_tail 13 kfollows_mixedOrders_true (by kernel_rfl) ?_
                refine TS.s rfl rfl rfl (StepS.ldB rfl (Ent.at 2 rfl) kscalB_51_true rfl) ?_
                refine TS.s rfl rfl rfl (StepS.ldB rfl (Ent.at 2 rfl) kscalB_51_true rfl) ?_
                refine TS.s rfl rfl rfl (StepS.move rfl) ?_
                obtain ⟨x75, hx76, hm⟩ := bind_some hm
                refine TS.s rfl rfl rfl (StepS.idx rfl rfl (OwnS.rd (Ent.at 3 rfl)) ksliceB_51_84_3_true (idx_spec hx76).1 (idxm_lt hx76)) ?_
                refine TS.s rfl rfl rfl (StepS.ptrf rfl kfieldB_84_1_1_true) ?_
                refine TS.s rfl rfl rfl (StepS.ld1 rfl (OwnS.rd (Ent.at 3 rfl)) kscalB_9_true rfl (idxm hx76) rfl) ?_
                refine TS.s rfl rfl rfl (StepS.ldB rfl (Ent.at 2 rfl) kscalB_51_true rfl) ?_
                refine TS.s rfl rfl rfl (StepS.move rfl) ?_
                obtain ⟨x77, hx78, hm⟩ := bind_some hm
                refine TS.s rfl rfl rfl (StepS.idx rfl rfl (OwnS.rd (Ent.at 3 rfl)) ksliceB_51_84_3_true (idx_spec hx78).1 (idxm_lt hx78)) ?_
                refine TS.s rfl rfl rfl (StepS.ptrf rfl kfieldB_84_2_2_true) ?_
                refine TS.s rfl rfl rfl (StepS.ld1 rfl (OwnS.rd (Ent.at 3 rfl)) kscalB_3_true rfl (idxm hx78) rfl) ?_
                refine TS.s rfl rfl rfl (StepS.build (cs := [I 0, .string x75.2.1, I x77.2.2, .slice none 0 0]) rfl (by kernel_rfl)) ?_
                refine TS.s rfl rfl rfl (StepS.assign rfl) ?_
                refine TS.nil ?_
                refine TO.at ?_
                refine TO.stB (us := [I 0, .string x75.2.1, I x77.2.2, .slice none 0 0]) 0 [I 0, .string x75.2.1, I x77.2.2, .slice none 0 0] rfl rfl rfl ksizeB_41_4_true rfl rfl rfl (by simp [Value.oneCell']) rfl ?_
                refine TO.code ?_
                cases hm
                refine TC.ret fun a w e s => ?_
                refine FRet.cell2r (P := Tryd.prog) (fn := Tryd.f30) e s rfl rfl rfl (Ent.at 0 rfl) kaggB_41_4_true rfl ?_
                refine ⟨_, _, rfl, ⟨(h0), (.slice none 0 0), rfl, rfl⟩, ?_⟩
                refine s.mono fun _ s => ?_
                replace s := Sat.nilS (e := 9) (sz := 1) (f := cS) s
                replace s := Sat.front 4 rfl s
                replace s := Sat.erase 2 s
                replace s := Sat.erase 2 s
                replace s := Sat.erase 2 s
                exact s
              · replace hm := cond_f hc74 hm
                refine TC.skipk ?_
                refine TC.k ?_
                refine TC.k ?_
                refine TC.region ?_
                refine TO.s rfl rfl rfl (StepS.fld rfl kfieldB_45_0_0_true) ?_
                refine TO.s rfl rfl rfl (StepS.ldB rfl (Ent.at 1 rfl) kscalB_3_true rfl) ?_
                refine TO.s rfl rfl rfl (StepS.cmp rfl rfl rfl) ?_
                refine TO.code ?_
                refine TC.cond rfl (fun hc79 => ?_) (fun hc79 => ?_)
                · replace hm := cond_t hc79 hm
                  refine TC.k ?_
                  refine TC.region_any (Bx b6 41 [I 0, .string ByteArray.empty, I 0, .slice none 0 0] :: Bx b5 45 [I a1.1, .string a1.2.1, .string a1.2.2.1, I a1.2.2.2] :: Bx b4 51 [h0] :: OwnS 84 3 h0 (a0.map cTssi) :: L) 12 13 kfollows_mixedOrders_true rfl ?_
                  refine TA.take 0 rfl rfl rfl rfl (StepS.ldB rfl (Ent.at 2 rfl) kscalB_51_true rfl) (by kernel_rfl) (by kernel_rfl) (by kernel_rfl) (by kernel_rfl) (by kernel_rfl) (fun _ s => s) ?_
                  refine TA.take 1 rfl rfl rfl rfl (StepS.ldB rfl (Ent.at 2 rfl) kscalB_51_true rfl) (by kernel_rfl) (by kernel_rfl) (by kernel_rfl) (by kernel_rfl) (by kernel_rfl) (fun _ s => s) ?_
                  refine TA.takeW 2 rfl rfl rfl rfl (StepS.move rfl) (by kernel_rfl) (by kernel_rfl) (by kernel_rfl) rfl (.inr (fun _ s => s)) ?_
                  obtain ⟨xq80_3_1, hxq80_3_2, hm⟩ := bind_some hm
                  refine TA.take 3 rfl rfl rfl rfl (StepS.idx rfl rfl (OwnS.rd (Ent.at 3 rfl)) ksliceB_51_84_3_true (idx_spec hxq80_3_2).1 (idxm_lt hxq80_3_2)) (by kernel_rfl) (by kernel_rfl) (by kernel_rfl) (by kernel_rfl) (by kernel_rfl) (fun _ s => s) ?_
                  refine TA.takeW 4 rfl rfl rfl rfl (StepS.ptrf rfl kfieldB_84_2_2_true) (by kernel_rfl) (by kernel_rfl) (by kernel_rfl) rfl (.inr (fun _ s => s)) ?_
                  refine TA.take 5 rfl rfl rfl rfl (StepS.ld1 rfl (OwnS.rd (Ent.at 3 rfl)) kscalB_3_true rfl (idxm hxq80_3_2) rfl) (by kernel_rfl) (by kernel_rfl) (by kernel_rfl) (by kernel_rfl) (by kernel_rfl) (fun _ s => s) ?_
                  refine TA.take 6 rfl rfl rfl rfl (StepS.ldB rfl (Ent.at 2 rfl) kscalB_51_true rfl) (by kernel_rfl) (by kernel_rfl) (by kernel_rfl) (by kernel_rfl) (by kernel_rfl) (fun _ s => s) ?_
                  refine TA.takeW 7 rfl rfl rfl rfl (StepS.fld rfl kfieldB_45_1_1_true) (by kernel_rfl) (by kernel_rfl) (by kernel_rfl) rfl (.inr (fun _ s => s)) ?_
                  refine TA.take 8 rfl rfl rfl rfl (StepS.ldB rfl (Ent.at 1 rfl) kscalB_9_true rfl) (by kernel_rfl) (by kernel_rfl) (by kernel_rfl) (by kernel_rfl) (by kernel_rfl) (fun _ s => s) ?_
                  refine TA.all1 (i := 9) (by kernel_rfl) ?_
                  refine TB.of rfl ?_
                  obtain ⟨rq80_9_1, hcq80_9_2, hm⟩ := bind_some hm
                  refine TO.callO kcallB_41_true rfl rfl rfl (fun _ st => C41 (OwnS.rd (Ent.at 3 rfl)) hcq80_9_2 st) ?_
                  rintro vq80_9_3 _ ⟨_, rfl, rfl⟩
                  refine TA.back (.inr (fun _ s => Sat.by [4, 4, 4, 4] 4 1 (by kernel_rfl) s)) ?_
                  refine TA.asL (L' := (OwnS 9 1 vq80_9_3 (rq80_9_1.map cS) :: Bx b6 41 [I 0, .string ByteArray.empty, I 0, .slice none 0 0] :: Bx b5 45 [I a1.1, .string a1.2.1, .string a1.2.2.1, I a1.2.2.2] :: Bx b4 51 [h0] :: OwnS 84 3 h0 (a0.map cTssi) :: L)) (listed' := #[true, true, true, true, true, true, true, true, true, true, false, false, false]) (by kernel_rfl) (by kernel_rfl) ?_
                  refine TA.takeW 11 rfl rfl rfl rfl (StepS.assign rfl) (by kernel_rfl) (by kernel_rfl) (by kernel_rfl) rfl (.inr (fun _ s => Sat.by [4, 4, 4, 4] 4 1 (by kernel_rfl) s)) ?_
                  refine TA.all1 (i := 10) (by kernel_rfl) ?_
                  refine TB.of rfl ?_
                  refine TO.pure (fun _ s => Rd.one (OwnS.rd (Ent.at 0 rfl)) s) fun ocq80_10_1 => ?_
                  refine TO.s rfl rfl rfl (StepS.buildS (us := [(2, I xq80_3_1.2.2), (3, .agg #[vq80_9_3])]) (cs := [I 0, .string ByteArray.empty, I xq80_3_1.2.2, vq80_9_3]) rfl (by simp only [List.map_cons, List.map_nil, ocq80_10_1.2] <;> rfl) (by kernel_rfl)) ?_
                  refine TA.back (.inr (fun _ s => Sat.by [4, 4, 4, 4] 4 1 (by kernel_rfl) s)) ?_
                  refine TA.asL (L' := (OwnS 9 1 vq80_9_3 (rq80_9_1.map cS) :: Bx b6 41 [I 0, .string ByteArray.empty, I 0, .slice none 0 0] :: Bx b5 45 [I a1.1, .string a1.2.1, .string a1.2.2.1, I a1.2.2.2] :: Bx b4 51 [h0] :: OwnS 84 3 h0 (a0.map cTssi) :: L)) (listed' := #[true, true, true, true, true, true, true, true, true, true, true, true, false]) (by kernel_rfl) (by kernel_rfl) ?_
                  refine TA.all1 (i := 12) (by kernel_rfl) ?_
                  refine TB.of rfl ?_
                  refine TO.pure (fun _ s => Rd.one (OwnS.rd (Ent.at 0 rfl)) s) fun ocq80_12_1 => ?_
                  refine TO.stB (us := [I 0, .string ByteArray.empty, I xq80_3_1.2.2, vq80_9_3]) 1 [I 0, .string ByteArray.empty, I xq80_3_1.2.2, vq80_9_3] rfl rfl rfl ksizeB_41_4_true rfl rfl rfl (by intro u hu; simp only [List.mem_cons, List.not_mem_nil, or_false] at hu; rcases hu with rfl | rfl | rfl | rfl <;> first | exact ocq80_12_1.1 | rfl) rfl ?_
                  refine TA.back (.inl (by kernel_rfl)) ?_
                  refine TA.asL (L' := (OwnS 9 1 vq80_9_3 (rq80_9_1.map cS) :: Bx b6 41 [I 0, .string ByteArray.empty, I xq80_3_1.2.2, vq80_9_3] :: Bx b5 45 [I a1.1, .string a1.2.1, .string a1.2.2.1, I a1.2.2.2] :: Bx b4 51 [h0] :: OwnS 84 3 h0 (a0.map cTssi) :: L)) (listed' := #[true, true, true, true, true, true, true, true, true, true, true, true, true]) (by kernel_rfl) (by kernel_rfl) ?_
                  refine TA.code (by kernel_rfl) ?_
                  cases hm
                  refine TC.ret fun a w e s => ?_
                  refine FRet.cell2r (P := Tryd.prog) (fn := Tryd.f30) e s rfl rfl rfl (Ent.at 1 rfl) kaggB_41_4_true rfl ?_
                  refine ⟨_, _, rfl, ⟨(h0), (vq80_9_3), rfl, rfl⟩, ?_⟩
                  refine s.mono fun _ s => ?_
                  replace s := Sat.front 0 rfl s
                  replace s := Sat.front 4 rfl s
                  replace s := Sat.erase 2 s
                  replace s := Sat.erase 2 s
                  replace s := Sat.erase 2 s
                  exact s
                · replace hm := cond_f hc79 hm
                  refine TC.skipk ?_
                  refine TC.k ?_
                  refine TC.k ?_
                  refine TC.region_still kfollows_mixedOrders_true (by kernel_rfl) ?_
                  refine TS.s rfl rfl rfl (StepS.fld rfl kfieldB_45_3_3_true) ?_
                  refine TS.s rfl rfl rfl (StepS.ldB rfl (Ent.at 1 rfl) kscalB_3_true rfl) ?_
                  refine TS.s rfl rfl rfl (StepS.cmp rfl rfl rfl) ?_
                  refine TS.s rfl rfl rfl (StepS.move rfl) ?_
                  obtain ⟨b82, hj83, hm⟩ := bind_some hm
                  refine TS.mid1 9 154 (.bool b82) ?_ ?_
                  · refine bcase ((decide (a1.2.2.2 ≥ 0))) (fun hb81 => ?_) (fun hb81 => ?_)
                    · replace hj83 := cond_t hb81 hj83
                      refine TS.sw rfl rfl rfl hb81 rfl rfl (StepS.fld rfl kfieldB_45_3_3_true) ?_
                      refine TS.sw rfl rfl rfl hb81 rfl rfl (StepS.ldB rfl (Ent.at 1 rfl) kscalB_3_true rfl) ?_
                      refine TS.sw rfl rfl rfl hb81 rfl rfl (StepS.ldB rfl (Ent.at 2 rfl) kscalB_51_true rfl) ?_
                      refine TS.sw rfl rfl rfl hb81 rfl rfl (StepS.move rfl) ?_
                      obtain ⟨x84, hx85, hj83⟩ := bind_some hj83
                      refine TS.sw rfl rfl rfl hb81 rfl rfl (StepS.idx rfl rfl (OwnS.rd (Ent.at 3 rfl)) ksliceB_51_84_3_true (idx_spec hx85).1 (idxm_lt hx85)) ?_
                      refine TS.sw rfl rfl rfl hb81 rfl rfl (StepS.ptrf rfl kfieldB_84_2_2_true) ?_
                      refine TS.sw rfl rfl rfl hb81 rfl rfl (StepS.ld1 rfl (OwnS.rd (Ent.at 3 rfl)) kscalB_3_true rfl (idxm hx85) rfl) ?_
                      refine TS.sw rfl rfl rfl hb81 rfl rfl (StepS.cmp rfl rfl rfl) ?_
                      cases hj83
                      refine TS.s rfl rfl rfl (StepS.pickT rfl hb81 rfl) ?_
                      exact TS.up1 9 0 rfl rfl rfl rfl
                    · replace hj83 := cond_f hb81 hj83
                      cases hj83
                      refine TS.skip rfl rfl rfl (skipF hb81) rfl rfl ?_
                      refine TS.skip rfl rfl rfl (skipF hb81) rfl rfl ?_
                      refine TS.skip rfl rfl rfl (skipF hb81) rfl rfl ?_
                      refine TS.skip rfl rfl rfl (skipF hb81) rfl rfl ?_
                      refine TS.skip rfl rfl rfl (skipF hb81) rfl rfl ?_
                      refine TS.skip rfl rfl rfl (skipF hb81) rfl rfl ?_
                      refine TS.skip rfl rfl rfl (skipF hb81) rfl rfl ?_
                      refine TS.skip rfl rfl rfl (skipF hb81) rfl rfl ?_
                      refine TS.s rfl rfl rfl (StepS.pickF rfl hb81 rfl) ?_
                      exact TS.up1 9 0 rfl rfl rfl rfl
                  refine TS.code ?_
                  refine TC.cond rfl (fun hc86 => ?_) (fun hc86 => ?_)
                  · replace hm := cond_t hc86 hm
                    refine TC.k ?_
                    refine TC.region ?_
                    refine TO.s rfl rfl rfl (StepS.move rfl) ?_
                    obtain ⟨r87, hc88, hm⟩ := bind_some hm
                    refine TO.callOC kcallB_38_true rfl rfl rfl rfl (fun _ st => C38 (Ent.at 2 rfl) (OwnS.rd (Ent.at 3 rfl)) hc88 st) ?_
                    rintro _ _ ⟨v89, rfl, rfl⟩
                    refine TO.s rfl rfl rfl (StepS.extract rfl rfl) ?_
                    refine TO.s rfl rfl rfl (StepS.extract rfl rfl) ?_
                    refine TO.s rfl rfl rfl (StepS.assign rfl) ?_
                    refine TO.pure (fun _ s => Rd.one (OwnS.rd (Ent.at 0 rfl)) s) fun oc91 => ?_
                    refine TO.stB (us := [I r87.1, .string r87.2.1, I r87.2.2.1, v89]) 1 [I r87.1, .string r87.2.1, I r87.2.2.1, v89] rfl rfl rfl ksizeB_41_4_true rfl rfl rfl (by intro u hu; simp only [List.mem_cons, List.not_mem_nil, or_false] at hu; rcases hu with rfl | rfl | rfl | rfl <;> first | exact oc91.1 | rfl) rfl ?_
                    refine TO.code ?_
                    cases hm
                    refine TC.ret fun a w e s => ?_
                    refine FRet.cell2r (P := Tryd.prog) (fn := Tryd.f30) e s rfl rfl rfl (Ent.at 1 rfl) kaggB_41_4_true rfl ?_
                    refine ⟨_, _, rfl, ⟨(h0), (v89), rfl, rfl⟩, ?_⟩
                    refine s.mono fun _ s => ?_
                    replace s := Sat.front 0 rfl s
                    replace s := Sat.front 4 rfl s
                    replace s := Sat.erase 2 s
                    replace s := Sat.erase 2 s
                    replace s := Sat.erase 2 s
                    exact s
                  · replace hm := cond_f hc86 hm
                    refine TC.skipk ?_
                    refine TC.k ?_
                    refine TC.k ?_
                    refine TC.region ?_
                    refine TO.s rfl rfl rfl (StepS.fld rfl kfieldB_45_0_0_true) ?_
                    refine TO.s rfl rfl rfl (StepS.ldB rfl (Ent.at 1 rfl) kscalB_3_true rfl) ?_
                    refine TO.s rfl rfl rfl (StepS.cmp rfl rfl rfl) ?_
                    refine TO.code ?_
                    refine TC.cond rfl (fun hc92 => ?_) (fun hc92 => ?_)
                    · replace hm := cond_t hc92 hm
                      refine TC.k ?_
                      refine TC.k ?_
                      refine TC.region ?_
                      refine TO.s rfl rfl rfl (StepS.ldB rfl (Ent.at 2 rfl) kscalB_51_true rfl) ?_
                      refine TO.s rfl rfl rfl (StepS.fld rfl kfieldB_45_1_1_true) ?_
                      refine TO.s rfl rfl rfl (StepS.ldB rfl (Ent.at 1 rfl) kscalB_9_true rfl) ?_
                      obtain ⟨r93, hc94, hm⟩ := bind_some hm
                      refine TO.callO kcallB_41_true rfl rfl rfl (fun _ st => C41 (OwnS.rd (Ent.at 3 rfl)) hc94 st) ?_
                      rintro v95 _ ⟨_, rfl, rfl⟩
                      refine TO.s rfl rfl rfl (StepS.lenm rfl (OwnS.rd (Ent.at 0 rfl)) ksliceB_39_9_1_true rfl) ?_
                      refine TO.s rfl rfl rfl (StepS.cmp rfl rfl rfl) ?_
                      refine TO.code ?_
                      refine TC.cond rfl (fun hc97 => ?_) (fun hc97 => ?_)
                      · replace hm := cond_t hc97 hm
                        refine TC.k ?_
                        refine TC.region ?_
                        refine TO.s rfl rfl rfl (StepS.move rfl) ?_
                        obtain ⟨r98, hc99, hm⟩ := bind_some hm
                        refine TO.callOC kcallB_38_true rfl rfl rfl rfl (fun _ st => C38 (Ent.at 3 rfl) (OwnS.rd (Ent.at 4 rfl)) hc99 st) ?_
                        rintro _ _ ⟨v100, rfl, rfl⟩
                        refine TO.s rfl rfl rfl (StepS.extract rfl rfl) ?_
                        refine TO.s rfl rfl rfl (StepS.extract rfl rfl) ?_
                        refine TO.s rfl rfl rfl (StepS.assign rfl) ?_
                        refine TO.pure (fun _ s => Rd.one (OwnS.rd (Ent.at 0 rfl)) s) fun oc102 => ?_
                        refine TO.stB (us := [I r98.1, .string r98.2.1, I r98.2.2.1, v100]) 2 [I r98.1, .string r98.2.1, I r98.2.2.1, v100] rfl rfl rfl ksizeB_41_4_true rfl rfl rfl (by intro u hu; simp only [List.mem_cons, List.not_mem_nil, or_false] at hu; rcases hu with rfl | rfl | rfl | rfl <;> first | exact oc102.1 | rfl) rfl ?_
                        refine TO.code ?_
                        cases hm
                        refine TC.ret fun a w e s => ?_
                        refine FRet.cell2r (P := Tryd.prog) (fn := Tryd.f30) e s rfl rfl rfl (Ent.at 2 rfl) kaggB_41_4_true rfl ?_
                        refine ⟨_, _, rfl, ⟨(h0), (v100), rfl, rfl⟩, ?_⟩
                        refine s.mono fun _ s => ?_
                        replace s := Sat.front 0 rfl s
                        replace s := Sat.front 5 rfl s
                        replace s := Sat.erase 2 s
                        replace s := Sat.erase 2 s
                        replace s := Sat.erase 2 s
                        replace s := Sat.erase 2 s
                        exact s
                      · replace hm := cond_f hc97 hm
                        refine TC.skipk ?_
                        refine TC.k ?_
                        refine TC.region_any (OwnS 9 1 v95 (r93.map cS) :: Bx b6 41 [I 0, .string ByteArray.empty, I 0, .slice none 0 0] :: Bx b5 45 [I a1.1, .string a1.2.1, .string a1.2.2.1, I a1.2.2.2] :: Bx b4 51 [h0] :: OwnS 84 3 h0 (a0.map cTssi) :: L) 12 13 kfollows_mixedOrders_true rfl ?_
                        refine TA.take 1 rfl rfl rfl rfl (StepS.ldB rfl (Ent.at 3 rfl) kscalB_51_true rfl) (by kernel_rfl) (by kernel_rfl) (by kernel_rfl) (by kernel_rfl) (by kernel_rfl) (fun _ s => s) ?_
                        refine TA.takeW 2 rfl rfl rfl rfl (StepS.move rfl) (by kernel_rfl) (by kernel_rfl) (by kernel_rfl) rfl (.inr (fun _ s => s)) ?_
                        obtain ⟨yq103_3_1, hsq103_3_2, hm⟩ := bind_some hm
                        obtain ⟨hsq103_3_2a, hsq103_3_2b, hsq103_3_2c, _⟩ := slI_spec hsq103_3_2
                        refine TA.take 3 rfl rfl rfl rfl (StepS.slc rfl (OwnS.rd (Ent.at 4 rfl)) ksliceB_51_84_3_true rfl rfl hsq103_3_2a hsq103_3_2b (by simpa using hsq103_3_2c)) (by kernel_rfl) (by kernel_rfl) (by kernel_rfl) (by kernel_rfl) (by kernel_rfl) (fun _ s => s) ?_
                        refine TA.take 5 rfl rfl rfl rfl (StepS.ldB rfl (Ent.at 3 rfl) kscalB_51_true rfl) (by kernel_rfl) (by kernel_rfl) (by kernel_rfl) (by kernel_rfl) (by kernel_rfl) (fun _ s => s) ?_
                        refine TA.takeW 6 rfl rfl rfl rfl (StepS.move rfl) (by kernel_rfl) (by kernel_rfl) (by kernel_rfl) rfl (.inr (fun _ s => s)) ?_
                        refine TA.takeW 7 rfl rfl rfl rfl (StepS.ari rfl rfl rfl) (by kernel_rfl) (by kernel_rfl) (by kernel_rfl) rfl (.inr (fun _ s => s)) ?_
                        obtain ⟨yq103_8_1, hsq103_8_2, hm⟩ := bind_some hm
                        obtain ⟨hsq103_8_2a, hsq103_8_2b, hsq103_8_2c, _⟩ := slI_spec hsq103_8_2
                        refine TA.take 8 rfl rfl rfl rfl (StepS.slc rfl (OwnS.rd (Ent.at 4 rfl)) ksliceB_51_84_3_true rfl (by simp [bnd]) hsq103_8_2a hsq103_8_2b (by simpa using hsq103_8_2c)) (by kernel_rfl) (by kernel_rfl) (by kernel_rfl) (by kernel_rfl) (by kernel_rfl) (fun _ s => s) ?_
                        refine TA.takeW 10 rfl rfl rfl rfl (StepS.build (cs := [I 0, .string ByteArray.empty, I 0, .slice none 0 0]) rfl (by kernel_rfl)) (by kernel_rfl) (by kernel_rfl) (by kernel_rfl) rfl (.inr (fun _ s => s)) ?_
                        refine TA.all1 (i := 0) (by kernel_rfl) ?_
                        refine TB.of rfl ?_
                        refine TO.lit0 (f := cTssi) ksliceB_51_84_3_true rfl fun vq103_0_1 => ?_
                        refine TA.back (.inr (fun _ s => Sat.by [5, 5, 5, 5, 5] 5 1 (by kernel_rfl) s)) ?_
                        refine TA.asL (L' := (OwnS 84 3 vq103_0_1 (([] : List (ByteArray × ByteArray × Int)).map cTssi) :: OwnS 9 1 v95 (r93.map cS) :: Bx b6 41 [I 0, .string ByteArray.empty, I 0, .slice none 0 0] :: Bx b5 45 [I a1.1, .string a1.2.1, .string a1.2.2.1, I a1.2.2.2] :: Bx b4 51 [h0] :: OwnS 84 3 h0 (a0.map cTssi) :: L)) (listed' := #[true, true, true, true, false, true, true, true, true, false, true, false, false]) (by kernel_rfl) (by kernel_rfl) ?_
                        refine TA.all1 (i := 4) (by kernel_rfl) ?_
                        refine TB.of rfl ?_
                        obtain ⟨yq103_4_1, hkq103_4_2, hm⟩ := bind_some hm
                        refine TO.app (k := 0) (f := cTssi) kelemB_51_84_3_40_true (by decide) rfl rfl rfl (Ent.sub (OwnS.rd (Ent.at 5 rfl)) hsq103_3_2) hkq103_4_2 (fun x c hc => by simp [Value.oneCell'] at hc ⊢; first | (obtain rfl := hc; rfl) | (rcases hc with rfl | rfl | rfl <;> rfl)) rfl rfl fun vq103_4_3 => ?_
                        refine TA.back (.inr (fun _ s => Sat.by [5, 5, 5, 5, 5] 5 1 (by kernel_rfl) s)) ?_
                        refine TA.asL (L' := (OwnS 84 3 vq103_4_3 (yq103_4_1.map cTssi) :: OwnS 9 1 v95 (r93.map cS) :: Bx b6 41 [I 0, .string ByteArray.empty, I 0, .slice none 0 0] :: Bx b5 45 [I a1.1, .string a1.2.1, .string a1.2.2.1, I a1.2.2.2] :: Bx b4 51 [h0] :: OwnS 84 3 h0 (a0.map cTssi) :: L)) (listed' := #[true, true, true, true, true, true, true, true, true, false, true, false, false]) (by kernel_rfl) (by kernel_rfl) ?_
                        refine TA.all1 (i := 9) (by kernel_rfl) ?_
                        refine TB.of rfl ?_
                        obtain ⟨yq103_9_1, hkq103_9_2, hm⟩ := bind_some hm
                        refine TO.app (k := 0) (f := cTssi) kelemB_51_84_3_40_true (by decide) rfl rfl rfl (Ent.sub (OwnS.rd (Ent.at 5 rfl)) hsq103_8_2) hkq103_9_2 (fun x c hc => by simp [Value.oneCell'] at hc ⊢; first | (obtain rfl := hc; rfl) | (rcases hc with rfl | rfl | rfl <;> rfl)) rfl rfl fun vq103_9_3 => ?_
                        refine TA.back (.inr (fun _ s => Sat.by [5, 5, 5, 5, 5] 5 1 (by kernel_rfl) s)) ?_
                        refine TA.asL (L' := (OwnS 84 3 vq103_9_3 (yq103_9_1.map cTssi) :: OwnS 9 1 v95 (r93.map cS) :: Bx b6 41 [I 0, .string ByteArray.empty, I 0, .slice none 0 0] :: Bx b5 45 [I a1.1, .string a1.2.1, .string a1.2.2.1, I a1.2.2.2] :: Bx b4 51 [h0] :: OwnS 84 3 h0 (a0.map cTssi) :: L)) (listed' := #[true, true, true, true, true, true, true, true, true, true, true, false, false]) (by kernel_rfl) (by kernel_rfl) ?_
                        refine TA.takeW 11 rfl rfl rfl rfl (StepS.assign rfl) (by kernel_rfl) (by kernel_rfl) (by kernel_rfl) rfl (.inr (fun _ s => Sat.by [5, 5, 5, 5, 5] 5 1 (by kernel_rfl) s)) ?_
                        refine TA.all1 (i := 12) (by kernel_rfl) ?_
                        refine TB.of rfl ?_
                        refine TO.stB (us := [I 0, .string ByteArray.empty, I 0, .slice none 0 0]) 2 [I 0, .string ByteArray.empty, I 0, .slice none 0 0] rfl rfl rfl ksizeB_41_4_true rfl rfl rfl (by simp [Value.oneCell']) rfl ?_
                        refine TA.back (.inl (by kernel_rfl)) ?_
                        refine TA.asL (L' := (OwnS 84 3 vq103_9_3 (yq103_9_1.map cTssi) :: OwnS 9 1 v95 (r93.map cS) :: Bx b6 41 [I 0, .string ByteArray.empty, I 0, .slice none 0 0] :: Bx b5 45 [I a1.1, .string a1.2.1, .string a1.2.2.1, I a1.2.2.2] :: Bx b4 51 [h0] :: OwnS 84 3 h0 (a0.map cTssi) :: L)) (listed' := #[true, true, true, true, true, true, true, true, true, true, true, true, true]) (by kernel_rfl) (by kernel_rfl) ?_
                        refine TA.code (by kernel_rfl) ?_
                        cases hm
                        refine TC.ret fun a w e s => ?_
                        refine FRet.cell2r (P := Tryd.prog) (fn := Tryd.f30) e s rfl rfl rfl (Ent.at 2 rfl) kaggB_41_4_true rfl ?_
                        refine ⟨_, _, rfl, ⟨(vq103_9_3), (.slice none 0 0), rfl, rfl⟩, ?_⟩
                        refine s.mono fun _ s => ?_
                        replace s := Sat.nilS (e := 9) (sz := 1) (f := cS) s
                        replace s := Sat.front 1 rfl s
                        replace s := Sat.erase 2 s
                        replace s := Sat.erase 2 s
                        replace s := Sat.erase 2 s
                        replace s := Sat.erase 2 s
                        replace s := Sat.erase 2 s
                        exact s
                    · replace hm := cond_f hc92 hm
                      refine TC.skipk ?_
                      refine TC.k ?_
                      refine TC.region ?_
                      refine TO.lit0 (f := cTssi) ksliceB_51_84_3_true rfl fun v104 => ?_
                      refine TO.s rfl rfl rfl (StepS.ldB rfl (Ent.at 3 rfl) kscalB_51_true rfl) ?_
                      obtain ⟨y106, hk107, hm⟩ := bind_some hm
                      refine TO.app (k := 0) (f := cTssi) kelemB_51_84_3_40_true (by decide) rfl rfl rfl (OwnS.rd (Ent.at 4 rfl)) hk107 (fun x c hc => by simp [Value.oneCell'] at hc ⊢; first | (obtain rfl := hc; rfl) | (rcases hc with rfl | rfl | rfl <;> rfl)) rfl rfl fun v108 => ?_
                      refine TO.s rfl rfl rfl (StepS.assign rfl) ?_
                      refine TO.code ?_
                      refine TC.k ?_
                      refine TC.region ?_
                      refine TO.s rfl rfl rfl (StepS.move rfl) ?_
                      refine TO.s rfl rfl rfl (StepS.move rfl) ?_
                      refine TO.s rfl rfl rfl (StepS.fld rfl kfieldB_45_2_2_true) ?_
                      refine TO.s rfl rfl rfl (StepS.ldB rfl (Ent.at 2 rfl) kscalB_9_true rfl) ?_
                      obtain ⟨x109, hx110, hm⟩ := bind_some hm
                      refine TO.s rfl rfl rfl (StepS.idx rfl rfl (OwnS.rd (Ent.at 0 rfl)) ksliceB_51_84_3_true (idx_spec hx110).1 (idxm_lt hx110)) ?_
                      refine TO.s rfl rfl rfl (StepS.ptrf rfl kfieldB_84_1_1_true) ?_
                      refine TO.stO (i := r30.toNat) (off := 1) (us := [.string a1.2.2.1]) 0 (x109.1, a1.2.2.1, x109.2.2) rfl rfl rfl ksizeB_9_1_true rfl rfl rfl (idx_spec hx110).2 rfl (by simp [Value.oneCell']) rfl ?_
                      refine TO.code ?_
                      refine TC.k ?_
                      refine TC.region ?_
                      refine TO.s rfl rfl rfl (StepS.move rfl) ?_
                      refine TO.s rfl rfl rfl (StepS.move rfl) ?_
                      refine TO.s rfl rfl rfl (StepS.move rfl) ?_
                      refine TO.s rfl rfl rfl (StepS.move rfl) ?_
                      obtain ⟨x111, hx112, hm⟩ := bind_some hm
                      refine TO.s rfl rfl rfl (StepS.idx rfl rfl (OwnS.rd (Ent.at 0 rfl)) ksliceB_51_84_3_true (idx_spec hx112).1 (idxm_lt hx112)) ?_
                      refine TO.s rfl rfl rfl (StepS.ptrf rfl kfieldB_84_2_2_true) ?_
                      refine TO.s rfl rfl rfl (StepS.ld1 rfl (OwnS.rd (Ent.at 0 rfl)) kscalB_3_true rfl (idxm hx112) rfl) ?_
                      refine TO.s rfl rfl rfl (StepS.ari rfl rfl rfl) ?_
                      obtain ⟨x113, hx114, hm⟩ := bind_some hm
                      refine TO.s rfl rfl rfl (StepS.idx rfl rfl (OwnS.rd (Ent.at 0 rfl)) ksliceB_51_84_3_true (idx_spec hx114).1 (idxm_lt hx114)) ?_
                      refine TO.s rfl rfl rfl (StepS.ptrf rfl kfieldB_84_2_2_true) ?_
                      refine TO.stO (i := r30.toNat) (off := 2) (us := [I (w64 (x111.2.2 + 1))]) 0 (x113.1, x113.2.1, w64 (x111.2.2 + 1)) rfl rfl rfl ksizeB_3_1_true rfl rfl rfl (idx_spec hx114).2 rfl (by simp [Value.oneCell']) rfl ?_
                      refine TO.code ?_
                      refine TC.k ?_
                      refine TC.region_tail 8 kfollows_mixedOrders_true (by kernel_rfl) ?_
                      refine TS.s rfl rfl rfl (StepS.move rfl) ?_
                      refine TS.s rfl rfl rfl (StepS.move rfl) ?_
                      refine TS.s rfl rfl rfl (StepS.move rfl) ?_
                      obtain ⟨x115, hx116, hm⟩ := bind_some hm
                      refine TS.s rfl rfl rfl (StepS.idx rfl rfl (OwnS.rd (Ent.at 0 rfl)) ksliceB_51_84_3_true (idx_spec hx116).1 (idxm_lt hx116)) ?_
                      refine TS.s rfl rfl rfl (StepS.ptrf rfl kfieldB_84_2_2_true) ?_
                      refine TS.s rfl rfl rfl (StepS.ld1 rfl (OwnS.rd (Ent.at 0 rfl)) kscalB_3_true rfl (idxm hx116) rfl) ?_
                      refine TS.s rfl rfl rfl (StepS.build (cs := [I 0, .string ByteArray.empty, I x115.2.2, .slice none 0 0]) rfl (by kernel_rfl)) ?_
                      refine TS.s rfl rfl rfl (StepS.assign rfl) ?_
                      refine TS.nil ?_
                      refine TO.at ?_
                      refine TO.stB (us := [I 0, .string ByteArray.empty, I x115.2.2, .slice none 0 0]) 1 [I 0, .string ByteArray.empty, I x115.2.2, .slice none 0 0] rfl rfl rfl ksizeB_41_4_true rfl rfl rfl (by simp [Value.oneCell']) rfl ?_
                      refine TO.code ?_
                      cases hm
                      refine TC.ret fun a w e s => ?_
                      refine FRet.cell2r (P := Tryd.prog) (fn := Tryd.f30) e s rfl rfl rfl (Ent.at 1 rfl) kaggB_41_4_true rfl ?_
                      refine ⟨_, _, rfl, ⟨(v108), (.slice none 0 0), rfl, rfl⟩, ?_⟩
                      refine s.mono fun _ s => ?_
                      replace s := Sat.nilS (e := 9) (sz := 1) (f := cS) s
                      replace s := Sat.front 1 rfl s
                      replace s := Sat.erase 2 s
                      replace s := Sat.erase 2 s
                      replace s := Sat.erase 2 s
                      replace s := Sat.erase 2 s
                      exact s

set_option maxRecDepth 100000 in
theorem C19 {B : World} {L : List HP} {a0 : List (ByteArray × ByteArray × Int)} {a1 : List (Int × ByteArray × ByteArray × Int)} {h0 : Value} {h1 : Value} {r0 : List (ByteArray × ByteArray × Int)} {r1 : List (Int × ByteArray × Int × List ByteArray)} (e1 : Ent L (Rd 4 h1 (a1.map cTissi))) (hm : F19 a0 a1 = some (r0, r1)) {w : World} (st : St B (OwnS 84 3 h0 (a0.map cTssi) :: L) w) : Calls Tryd.prog 19 #[h0, h1] w (fun e w' => ∃ v M, e = .returned v ∧ (∃ (qv1 : Value) (qv2 : Value) (qhs3 : List (List Value)), v = .tuple #[qv1, qv2] ∧ M = (OwnS 84 3 qv1 (r0.map cTssi) :: SN 41 4 nT41 qv2 qhs3 (r1) :: L)) ∧ St B M w') := by
  refine calls_of (N := 31) (L := (OwnS 84 3 h0 (a0.map cTssi) :: L)) (args := [h0, h1]) Tryd.func19 rfl rfl rfl ?_ st
  dsimp only [F19] at hm
  refine TC.k ?_
  refine TC.region ?_
  refine TO.s rfl rfl rfl (StepS.assign rfl) ?_
  refine TO.s rfl rfl rfl (StepS.assign rfl) ?_
  refine TO.code ?_
  refine TC.k ?_
  refine TC.region ?_
  refine TO.s rfl rfl rfl (StepS.assign rfl) ?_
  refine TO.code ?_
  refine TC.k ?_
  refine TC.k ?_
  refine TC.region ?_
  refine TO.s rfl rfl rfl (StepS.move rfl) ?_
  refine TO.s rfl rfl rfl (StepS.lenm rfl e1.tl ksliceB_34_45_4_true rfl) ?_
  refine TO.s rfl rfl rfl (StepS.move rfl) ?_
  refine TO.code ?_
  obtain ⟨o27, hw28, hm⟩ := bind_some hm
  refine TC.loop hw28 (fun (y6, y10, x11) => fun a w => ∃ v4 : Value, ∃ v7 : Value, ∃ hs8 : List (List Value), Mid 31 B [(0, v4), (6, v7), (11, h1), (12, I (a1.length : Int)), (13, I x11)] (OwnS 84 3 v4 (y6.map cTssi) :: SN 41 4 nT41 v7 hs8 (y10) :: L) a w) (fun (y22, y26) => fun a w => ∃ v20 : Value, ∃ v23 : Value, ∃ hs24 : List (List Value), Mid 31 B [(0, v20), (6, v23)] (OwnS 84 3 v20 (y22.map cTssi) :: SN 41 4 nT41 v23 hs24 (y26) :: L) a w) (fun (_ : Unit) _ _ => False) ?_ ?_ ?_ ?_
  · rintro ⟨y6, y10, x11⟩ o27r hb29 a w ⟨v4, v7, hs8, he, hs⟩
    dsimp only [F19_L0] at hb29
    refine TC.use ?_ he hs
    refine TC.k ?_
    refine TC.region ?_
    refine TO.s rfl rfl rfl (StepS.cmp rfl rfl rfl) ?_
    refine TO.code ?_
    refine TC.k ?_
    refine TC.cond rfl (fun hc30 => ?_) (fun hc30 => ?_)
    · replace hb29 := cond_t hc30 hb29
      refine TC.skipk ?_
      refine TC.k ?_
      refine TC.block ?_
      refine TC.k ?_
      refine TC.region ?_
      obtain ⟨x31, hx32, hb29⟩ := bind_some hb29
      refine TO.s rfl rfl rfl (StepS.idx rfl rfl e1.tl.tl ksliceB_34_45_4_true (idx_spec hx32).1 (idxm_lt hx32)) ?_
      refine TO.s rfl rfl rfl (StepS.ldE rfl e1.tl.tl kaggB_45_4_true rfl (idxm hx32)) ?_
      refine TO.alloc kinfo_45_bind_zero_some_agg_I_0_string_ByteArray_empty_string_ByteArray_empty_I_0 rfl rfl fun b33 => ?_
      refine TO.stB (us := [I x31.1, .string x31.2.1, .string x31.2.2.1, I x31.2.2.2]) 0 [I x31.1, .string x31.2.1, .string x31.2.2.1, I x31.2.2.2] rfl rfl rfl ksizeB_45_4_true rfl rfl rfl (by simp [Value.oneCell']) rfl ?_
      refine TO.code ?_
      refine TC.k ?_
      refine TC.region ?_
      refine TO.s rfl rfl rfl (StepS.move rfl) ?_
      refine TO.s rfl rfl rfl (StepS.ldBA rfl (Ent.at 0 rfl) kaggB_45_4_true rfl rfl) ?_
      refine TO.ghost (fun _ s => Sat.front 1 rfl s) ?_
      obtain ⟨⟨r34, r35⟩, hc36, hb29⟩ := bind_some hb29
      refine TO.callO kcallB_30_true rfl rfl rfl (fun _ st => C30  hc36 st) ?_
      rintro _ _ ⟨v37, v39, rfl, rfl⟩
      refine TO.s rfl rfl rfl (StepS.move rfl) ?_
      refine TO.s rfl rfl rfl (StepS.extract rfl rfl) ?_
      refine TO.s rfl rfl rfl (StepS.extract rfl rfl) ?_
      refine TO.alloc kinfo_41_bind_zero_some_agg_I_0_string_ByteArray_empty_I_0_slice_none_0_0 rfl rfl fun b41 => ?_
      refine TO.s rfl rfl rfl (StepS.assign rfl) ?_
      refine TO.pure (fun _ s => Rd.one (OwnS.rd (Ent.at 2 rfl)) s) fun oc42 => ?_
      refine TO.stB (us := [I r35.1, .string r35.2.1, I r35.2.2.1, v39]) 0 [I r35.1, .string r35.2.1, I r35.2.2.1, v39] rfl rfl rfl ksizeB_41_4_true rfl rfl rfl (by intro u hu; simp only [List.mem_cons, List.not_mem_nil, or_false] at hu; rcases hu with rfl | rfl | rfl | rfl <;> first | exact oc42.1 | rfl) rfl ?_
      refine TO.code ?_
      refine TC.k ?_
      refine TC.region ?_
      refine TO.s rfl rfl rfl (StepS.move rfl) ?_
      refine TO.s rfl rfl rfl (StepS.assign rfl) ?_
      refine TO.code ?_
      refine TC.region ?_
      refine TO.s rfl rfl rfl (StepS.move rfl) ?_
      refine TO.s rfl rfl rfl (StepS.ldBA rfl (Ent.at 0 rfl) kaggB_41_4_true rfl rfl) ?_
      refine TO.litS (f := fun (_ : Unit) => [I r35.1, .string r35.2.1, I r35.2.2.1, v39]) [()] kelemB_23_41_4_56_true kinfo_41_bind_zero_some_agg_I_0_string_ByteArray_empty_I_0_slice_none_0_0 rfl rfl (fun _ => rfl) rfl rfl (by kernel_rfl) rfl fun v43 => ?_
      refine TO.pure (fun _ s => Rd.one (OwnS.rd (Ent.at 3 rfl)) s) fun oc45 => ?_
      refine TO.ghost (fun _ s => Sat.front 5 rfl s) ?_
      refine TO.ghost (fun _ s => Sat.front 4 rfl s) ?_
      obtain ⟨y46, hk47, hb29⟩ := bind_some hb29
      refine TO.appN (T := nT41) (z := (r35.1, r35.2.1, r35.2.2.1, r35.2.2.2)) [v39] rfl kelemB_23_41_4_56_true (by decide) rfl rfl (OwnS.rd (Ent.at 0 rfl)) hk47 (by intro u hu; have hu : u ∈ [I r35.1, .string r35.2.1, I r35.2.2.1, v39] := hu; simp only [List.mem_cons, List.not_mem_nil, or_false] at hu; rcases hu with rfl | rfl | rfl | rfl <;> first | rfl | exact oc45.1) rfl rfl fun v48 hs49 => ?_
      refine TO.ghost (fun _ s => Sat.erase 1 s) ?_
      refine TO.s rfl rfl rfl (StepS.assign rfl) ?_
      refine TO.code ?_
      refine TC.region ?_
      refine TO.s rfl rfl rfl (StepS.ari rfl rfl rfl) ?_
      refine TO.s rfl rfl rfl (StepS.move rfl) ?_
      cases hb29
      refine TO.nil fun a w e s => ?_
      exact ⟨v37, v48, hs49, e.sub (lk_of_allIn ⟨rfl, rfl, rfl, rfl, rfl, trivial⟩), s.mono fun _ s => (by exact Sat.by [0, 2] 2 2 (by kernel_rfl) s)⟩
    · replace hb29 := cond_f hc30 hb29
      cases hb29
      refine TC.exit rfl fun a w e s => ?_
      exact ⟨v4, v7, hs8, e.sub (lk_of_allIn ⟨rfl, rfl, trivial⟩), s⟩
  · exact fun a w e s => ⟨h0, .slice none 0 0, [], e.sub (lk_of_allIn ⟨rfl, rfl, rfl, rfl, rfl, trivial⟩), s.mono fun _ s => (by replace s := Sat.nilSN (e := 41) (sz := 4) (T := nT41) s; exact Sat.by [0, 1] 2 0 (by kernel_rfl) s)⟩
  · rintro ⟨y22, y26⟩ rfl a w ⟨v20, v23, hs24, he, hs⟩
    dsimp only [Ctl.on] at hm
    refine TC.use ?_ he hs
    refine TC.k ?_
    refine TC.region ?_
    refine TO.s rfl rfl rfl (StepS.move rfl) ?_
    refine TO.s rfl rfl rfl (StepS.move rfl) ?_
    refine TO.s rfl rfl rfl (StepS.assign rfl) ?_
    refine TO.s rfl rfl rfl (StepS.assign rfl) ?_
    refine TO.code ?_
    cases hm
    refine TC.ret fun a w e s => ?_
    refine FRet.mk2 (P := Tryd.prog) (fn := Tryd.f19) (t := 4) (u := 5) e rfl rfl rfl ?_
    refine ⟨_, _, rfl, ⟨(v20), (v23), (hs24), rfl, rfl⟩, ?_⟩
    refine s.mono fun _ s => ?_
    replace s := Sat.front 1 rfl s
    replace s := Sat.front 1 rfl s
    exact s
  · rintro r rfl
    exact fun a w h => h.elim

set_option maxRecDepth 100000 in
theorem C16 {B : World} {L : List HP} {a0 : Int × ByteArray × Int × List ByteArray} {a1 : Int × ByteArray × Int × List ByteArray} {h0_1 : Value} {h1_1 : Value} {r0 : Bool} (eh0_1 : Ent L (Rd 1 h0_1 (a0.2.2.2.map cS))) (eh1_1 : Ent L (Rd 1 h1_1 (a1.2.2.2.map cS))) (hm : F16 a0 a1 = some r0) {w : World} (st : St B L w) : Calls Tryd.prog 16 #[.agg #[I a0.1, .string a0.2.1, I a0.2.2.1, h0_1], .agg #[I a1.1, .string a1.2.1, I a1.2.2.1, h1_1]] w (fun e w' => (e = .returned (.bool r0) ∧ St B (L) w')) := by
  refine calls_of (N := 52) (L := L) (args := [.agg #[I a0.1, .string a0.2.1, I a0.2.2.1, h0_1], .agg #[I a1.1, .string a1.2.1, I a1.2.2.1, h1_1]]) Tryd.func16 rfl rfl rfl ?_ st
  dsimp only [F16] at hm
  refine TC.k ?_
  refine TC.region ?_
  refine TO.box (cs := [I a0.1, .string a0.2.1, I a0.2.2.1, h0_1]) rfl rfl rfl fun b3 => ?_
  refine TO.box (cs := [I a1.1, .string a1.2.1, I a1.2.2.1, h1_1]) rfl rfl rfl fun b4 => ?_
  refine TO.s rfl rfl rfl (StepS.assign rfl) ?_
  refine TO.code ?_
  refine TC.k ?_
  refine TC.k ?_
  refine TC.region ?_
  refine TO.s rfl rfl rfl (StepS.fld rfl kfieldB_41_0_0_true) ?_
  refine TO.s rfl rfl rfl (StepS.ldB rfl (Ent.at 1 rfl) kscalB_27_true rfl) ?_
  refine TO.s rfl rfl rfl (StepS.fld rfl kfieldB_41_0_0_true) ?_
  refine TO.s rfl rfl rfl (StepS.ldB rfl (Ent.at 0 rfl) kscalB_27_true rfl) ?_
  refine TO.s rfl rfl rfl (StepS.cmp rfl rfl rfl) ?_
  refine TO.s rfl rfl rfl (StepS.move rfl) ?_
  refine TO.mid1 6 17 (.bool ((a0.1 != a1.1) || (!sEq a0.2.1 a1.2.1))) ?_ ?_
  · refine bcase ((a0.1 != a1.1)) (fun hb5 => ?_) (fun hb5 => ?_)
    · refine TO.skip rfl rfl rfl (skipT hb5) rfl rfl ?_
      refine TO.skip rfl rfl rfl (skipT hb5) rfl rfl ?_
      refine TO.skip rfl rfl rfl (skipT hb5) rfl rfl ?_
      refine TO.skip rfl rfl rfl (skipT hb5) rfl rfl ?_
      refine TO.skip rfl rfl rfl (skipT hb5) rfl rfl ?_
      refine TO.s rfl rfl rfl (StepS.pickT rfl hb5 rfl) ?_
      exact TO.up1 6 0 rfl rfl (by rw [hb5]; rfl) rfl
    · refine TO.sw rfl rfl rfl hb5 rfl rfl (StepS.fld rfl kfieldB_41_1_1_true) ?_
      refine TO.sw rfl rfl rfl hb5 rfl rfl (StepS.ldB rfl (Ent.at 1 rfl) kscalB_9_true rfl) ?_
      refine TO.sw rfl rfl rfl hb5 rfl rfl (StepS.fld rfl kfieldB_41_1_1_true) ?_
      refine TO.sw rfl rfl rfl hb5 rfl rfl (StepS.ldB rfl (Ent.at 0 rfl) kscalB_9_true rfl) ?_
      refine TO.sw rfl rfl rfl hb5 rfl rfl (StepS.cmpS kunderlying_9_some_string rfl rfl rfl) ?_
      refine TO.s rfl rfl rfl (StepS.pickF rfl hb5 rfl) ?_
      exact TO.up1 6 0 rfl rfl (by rw [hb5]; rfl) rfl
  refine TO.s rfl rfl rfl (StepS.move rfl) ?_
  refine TO.mid1 6 24 (.bool (((a0.1 != a1.1) || (!sEq a0.2.1 a1.2.1)) || (a0.2.2.1 != a1.2.2.1))) ?_ ?_
  · refine bcase (((a0.1 != a1.1) || (!sEq a0.2.1 a1.2.1))) (fun hb6 => ?_) (fun hb6 => ?_)
    · refine TO.skip rfl rfl rfl (skipT hb6) rfl rfl ?_
      refine TO.skip rfl rfl rfl (skipT hb6) rfl rfl ?_
      refine TO.skip rfl rfl rfl (skipT hb6) rfl rfl ?_
      refine TO.skip rfl rfl rfl (skipT hb6) rfl rfl ?_
      refine TO.skip rfl rfl rfl (skipT hb6) rfl rfl ?_
      refine TO.s rfl rfl rfl (StepS.pickT rfl hb6 rfl) ?_
      exact TO.up1 6 0 rfl rfl (by rw [hb6]; rfl) rfl
    · refine TO.sw rfl rfl rfl hb6 rfl rfl (StepS.fld rfl kfieldB_41_2_2_true) ?_
      refine TO.sw rfl rfl rfl hb6 rfl rfl (StepS.ldB rfl (Ent.at 1 rfl) kscalB_3_true rfl) ?_
      refine TO.sw rfl rfl rfl hb6 rfl rfl (StepS.fld rfl kfieldB_41_2_2_true) ?_
      refine TO.sw rfl rfl rfl hb6 rfl rfl (StepS.ldB rfl (Ent.at 0 rfl) kscalB_3_true rfl) ?_
      refine TO.sw rfl rfl rfl hb6 rfl rfl (StepS.cmp rfl rfl rfl) ?_
      refine TO.s rfl rfl rfl (StepS.pickF rfl hb6 rfl) ?_
      exact TO.up1 6 0 rfl rfl (by rw [hb6]; rfl) rfl
  refine TO.s rfl rfl rfl (StepS.move rfl) ?_
  refine TO.mid1 8 33 (.bool ((((a0.1 != a1.1) || (!sEq a0.2.1 a1.2.1)) || (a0.2.2.1 != a1.2.2.1)) || ((a0.2.2.2.length : Int) != (a1.2.2.2.length : Int)))) ?_ ?_
  · refine bcase ((((a0.1 != a1.1) || (!sEq a0.2.1 a1.2.1)) || (a0.2.2.1 != a1.2.2.1))) (fun hb7 => ?_) (fun hb7 => ?_)
    · refine TO.skip rfl rfl rfl (skipT hb7) rfl rfl ?_
      refine TO.skip rfl rfl rfl (skipT hb7) rfl rfl ?_
      refine TO.skip rfl rfl rfl (skipT hb7) rfl rfl ?_
      refine TO.skip rfl rfl rfl (skipT hb7) rfl rfl ?_
      refine TO.skip rfl rfl rfl (skipT hb7) rfl rfl ?_
      refine TO.skip rfl rfl rfl (skipT hb7) rfl rfl ?_
      refine TO.skip rfl rfl rfl (skipT hb7) rfl rfl ?_
      refine TO.s rfl rfl rfl (StepS.pickT rfl hb7 rfl) ?_
      exact TO.up1 8 0 rfl rfl (by rw [hb7]; rfl) rfl
    · refine TO.sw rfl rfl rfl hb7 rfl rfl (StepS.fld rfl kfieldB_41_3_3_true) ?_
      refine TO.sw rfl rfl rfl hb7 rfl rfl (StepS.ldB rfl (Ent.at 1 rfl) kscalB_39_true rfl) ?_
      refine TO.sw rfl rfl rfl hb7 rfl rfl (StepS.lenm rfl eh0_1.tl.tl ksliceB_39_9_1_true rfl) ?_
      refine TO.sw rfl rfl rfl hb7 rfl rfl (StepS.fld rfl kfieldB_41_3_3_true) ?_
      refine TO.sw rfl rfl rfl hb7 rfl rfl (StepS.ldB rfl (Ent.at 0 rfl) kscalB_39_true rfl) ?_
      refine TO.sw rfl rfl rfl hb7 rfl rfl (StepS.lenm rfl eh1_1.tl.tl ksliceB_39_9_1_true rfl) ?_
      refine TO.sw rfl rfl rfl hb7 rfl rfl (StepS.cmp rfl rfl rfl) ?_
      refine TO.s rfl rfl rfl (StepS.pickF rfl hb7 rfl) ?_
      exact TO.up1 8 0 rfl rfl (by rw [hb7]; rfl) rfl
  refine TO.code ?_
  refine TC.cond rfl (fun hc8 => ?_) (fun hc8 => ?_)
  · replace hm := cond_t hc8 hm
    refine TC.k ?_
    refine TC.region ?_
    refine TO.s rfl rfl rfl (StepS.assign rfl) ?_
    refine TO.code ?_
    cases hm
    refine TC.ret fun a w e s => ?_
    refine FRet.mk1 (P := Tryd.prog) (fn := Tryd.f16) (t := 4) e rfl rfl ?_
    exact ⟨rfl, s.mono fun _ => Sat.dropN 2⟩
  · replace hm := cond_f hc8 hm
    refine TC.skipk ?_
    refine TC.k ?_
    refine TC.k ?_
    refine TC.region ?_
    refine TO.s rfl rfl rfl (StepS.assign rfl) ?_
    refine TO.code ?_
    obtain ⟨o11, hw12, hm⟩ := bind_some hm
    refine TC.loop hw12 (fun x9 => fun a w => Mid 52 B [(2, .pointer (some ⟨b3, 0, none⟩)), (3, .pointer (some ⟨b4, 0, none⟩)), (5, I x9)] (Bx b4 41 [I a1.1, .string a1.2.1, I a1.2.2.1, h1_1] :: Bx b3 41 [I a0.1, .string a0.2.1, I a0.2.2.1, h0_1] :: L) a w) (fun _ => fun a w => Mid 52 B [] (Bx b4 41 [I a1.1, .string a1.2.1, I a1.2.2.1, h1_1] :: Bx b3 41 [I a0.1, .string a0.2.1, I a0.2.2.1, h0_1] :: L) a w) (fun r0 => FRet Tryd.prog Tryd.f16 (fun e w' => (e = .returned (.bool r0) ∧ St B (L) w'))) ?_ ?_ ?_ ?_
    · rintro x9 o11r hb13 a w ⟨he, hs⟩
      dsimp only [F16_L0] at hb13
      refine TC.use ?_ he hs
      refine TC.k ?_
      refine TC.k ?_
      refine TC.region ?_
      refine TO.s rfl rfl rfl (StepS.move rfl) ?_
      refine TO.s rfl rfl rfl (StepS.fld rfl kfieldB_41_3_3_true) ?_
      refine TO.s rfl rfl rfl (StepS.ldB rfl (Ent.at 1 rfl) kscalB_39_true rfl) ?_
      refine TO.s rfl rfl rfl (StepS.lenm rfl eh0_1.tl.tl ksliceB_39_9_1_true rfl) ?_
      refine TO.s rfl rfl rfl (StepS.cmp rfl rfl rfl) ?_
      refine TO.code ?_
      refine TC.cond rfl (fun hc14 => ?_) (fun hc14 => ?_)
      · replace hb13 := cond_t hc14 hb13
        refine TC.skipk ?_
        refine TC.k ?_
        refine TC.block ?_
        refine TC.k ?_
        refine TC.region_still kfollows_mixedOrders_true (by kernel_rfl) ?_
        refine TS.s rfl rfl rfl (StepS.fld rfl kfieldB_41_3_3_true) ?_
        refine TS.s rfl rfl rfl (StepS.ldB rfl (Ent.at 1 rfl) kscalB_39_true rfl) ?_
        refine TS.s rfl rfl rfl (StepS.move rfl) ?_
        obtain ⟨x15, hx16, hb13⟩ := bind_some hb13
        refine TS.s rfl rfl rfl (StepS.idx rfl rfl eh0_1.tl.tl ksliceB_39_9_1_true (idx_spec hx16).1 (idxm_lt hx16)) ?_
        refine TS.s rfl rfl rfl (StepS.ld0 rfl eh0_1.tl.tl kscalB_9_true rfl (idxm hx16) rfl) ?_
        refine TS.s rfl rfl rfl (StepS.fld rfl kfieldB_41_3_3_true) ?_
        refine TS.s rfl rfl rfl (StepS.ldB rfl (Ent.at 0 rfl) kscalB_39_true rfl) ?_
        refine TS.s rfl rfl rfl (StepS.move rfl) ?_
        obtain ⟨x17, hx18, hb13⟩ := bind_some hb13
        refine TS.s rfl rfl rfl (StepS.idx rfl rfl eh1_1.tl.tl ksliceB_39_9_1_true (idx_spec hx18).1 (idxm_lt hx18)) ?_
        refine TS.s rfl rfl rfl (StepS.ld0 rfl eh1_1.tl.tl kscalB_9_true rfl (idxm hx18) rfl) ?_
        refine TS.s rfl rfl rfl (StepS.cmpS kunderlying_9_some_string rfl rfl rfl) ?_
        refine TS.code ?_
        refine TC.cond rfl (fun hc19 => ?_) (fun hc19 => ?_)
        · replace hb13 := cond_t hc19 hb13
          refine TC.k ?_
          refine TC.region ?_
          refine TO.s rfl rfl rfl (StepS.assign rfl) ?_
          refine TO.code ?_
          cases hb13
          refine TC.ret fun a w e s => ?_
          refine FRet.mk1 (P := Tryd.prog) (fn := Tryd.f16) (t := 4) e rfl rfl ?_
          exact ⟨rfl, s.mono fun _ => Sat.dropN 2⟩
        · replace hb13 := cond_f hc19 hb13
          refine TC.skipk ?_
          refine TC.region ?_
          refine TO.s rfl rfl rfl (StepS.move rfl) ?_
          refine TO.s rfl rfl rfl (StepS.ari rfl rfl rfl) ?_
          refine TO.s rfl rfl rfl (StepS.assign rfl) ?_
          cases hb13
          refine TO.nil fun a w e s => ?_
          exact ⟨e.sub (lk_of_allIn ⟨rfl, rfl, rfl, trivial⟩), s⟩
      · replace hb13 := cond_f hc14 hb13
        cases hb13
        refine TC.exit rfl fun a w e s => ?_
        exact ⟨e.sub (lk_of_allIn trivial), s⟩
    · exact fun a w e s => ⟨e.sub (lk_of_allIn ⟨rfl, rfl, rfl, trivial⟩), s⟩
    · rintro _ rfl a w ⟨he, hs⟩
      dsimp only [Ctl.on] at hm
      refine TC.use ?_ he hs
      refine TC.k ?_
      refine TC.region ?_
      refine TO.s rfl rfl rfl (StepS.assign rfl) ?_
      refine TO.code ?_
      cases hm
      refine TC.ret fun a w e s => ?_
      refine FRet.mk1 (P := Tryd.prog) (fn := Tryd.f16) (t := 4) e rfl rfl ?_
      exact ⟨rfl, s.mono fun _ => Sat.dropN 2⟩
    · rintro r rfl
      cases hm
      exact fun a w h => h

set_option maxRecDepth 100000 in
theorem C13 {B : World} {L : List HP} {a0 : List (Int × ByteArray × Int × List ByteArray)} {a1 : List (Int × ByteArray × Int × List ByteArray)} {h0 : Value} {k0_ : List (List Value)} {h1 : Value} {k1_ : List (List Value)} {r0 : Bool} (e0 : Ent L (SN 41 4 nT41 h0 k0_ a0)) (e1 : Ent L (SN 41 4 nT41 h1 k1_ a1)) (hm : F13 a0 a1 = some r0) {w : World} (st : St B L w) : Calls Tryd.prog 13 #[h0, h1] w (fun e w' => (e = .returned (.bool r0) ∧ St B (L) w')) := by
  refine calls_of (N := 27) (L := L) (args := [h0, h1]) Tryd.func13 rfl rfl rfl ?_ st
  dsimp only [F13] at hm
  refine TC.k ?_
  refine TC.region ?_
  refine TO.s rfl rfl rfl (StepS.assign rfl) ?_
  refine TO.code ?_
  refine TC.k ?_
  refine TC.k ?_
  refine TC.region ?_
  refine TO.s rfl rfl rfl (StepS.move rfl) ?_
  refine TO.s rfl rfl rfl (StepS.lenN rfl e0 ksliceB_23_41_4_true rfl) ?_
  refine TO.s rfl rfl rfl (StepS.move rfl) ?_
  refine TO.s rfl rfl rfl (StepS.lenN rfl e1 ksliceB_23_41_4_true rfl) ?_
  refine TO.s rfl rfl rfl (StepS.cmp rfl rfl rfl) ?_
  refine TO.code ?_
  refine TC.cond rfl (fun hc1 => ?_) (fun hc1 => ?_)
  · replace hm := cond_t hc1 hm
    refine TC.k ?_
    refine TC.region ?_
    refine TO.s rfl rfl rfl (StepS.assign rfl) ?_
    refine TO.code ?_
    cases hm
    refine TC.ret fun a w e s => ?_
    refine FRet.mk1 (P := Tryd.prog) (fn := Tryd.f13) (t := 4) e rfl rfl ?_
    exact ⟨rfl, s.mono fun _ => Sat.dropN 0⟩
  · replace hm := cond_f hc1 hm
    refine TC.skipk ?_
    refine TC.k ?_
    refine TC.k ?_
    refine TC.region ?_
    refine TO.s rfl rfl rfl (StepS.assign rfl) ?_
    refine TO.code ?_
    obtain ⟨o4, hw5, hm⟩ := bind_some hm
    refine TC.loop hw5 (fun x2 => fun a w => Mid 27 B [(0, h0), (1, h1), (5, I x2)] (L) a w) (fun _ => fun a w => Mid 27 B [] (L) a w) (fun r0 => FRet Tryd.prog Tryd.f13 (fun e w' => (e = .returned (.bool r0) ∧ St B (L) w'))) ?_ ?_ ?_ ?_
    · rintro x2 o4r hb6 a w ⟨he, hs⟩
      dsimp only [F13_L0] at hb6
      refine TC.use ?_ he hs
      refine TC.k ?_
      refine TC.k ?_
      refine TC.region ?_
      refine TO.s rfl rfl rfl (StepS.move rfl) ?_
      refine TO.s rfl rfl rfl (StepS.move rfl) ?_
      refine TO.s rfl rfl rfl (StepS.lenN rfl e0 ksliceB_23_41_4_true rfl) ?_
      refine TO.s rfl rfl rfl (StepS.cmp rfl rfl rfl) ?_
      refine TO.code ?_
      refine TC.cond rfl (fun hc7 => ?_) (fun hc7 => ?_)
      · replace hb6 := cond_t hc7 hb6
        refine TC.skipk ?_
        refine TC.k ?_
        refine TC.block ?_
        refine TC.k ?_
        refine TC.region_quiet kfollows_mixedOrders_true (by kernel_rfl) ?_
        refine TQ.s rfl rfl rfl (StepS.move rfl).q ?_
        refine TQ.s rfl rfl rfl (StepS.move rfl).q ?_
        obtain ⟨x8, hx9, hb6⟩ := bind_some hb6
        refine TQ.s rfl rfl rfl (StepS.idxN rfl rfl e0 ksliceB_23_41_4_true hx9).q ?_
        refine TQ.s rfl rfl rfl (StepS.ldNE (cs := [I x8.1, .string x8.2.1, I x8.2.2.1, (cv (gr k0_ x2.toNat) 0)]) rfl e0 kaggB_41_4_true hx9 rfl rfl).q ?_
        refine TQ.s rfl rfl rfl (StepS.move rfl).q ?_
        refine TQ.s rfl rfl rfl (StepS.move rfl).q ?_
        obtain ⟨x10, hx11, hb6⟩ := bind_some hb6
        refine TQ.s rfl rfl rfl (StepS.idxN rfl rfl e1 ksliceB_23_41_4_true hx11).q ?_
        refine TQ.s rfl rfl rfl (StepS.ldNE (cs := [I x10.1, .string x10.2.1, I x10.2.2.1, (cv (gr k1_ x2.toNat) 0)]) rfl e1 kaggB_41_4_true hx11 rfl rfl).q ?_
        obtain ⟨r12, hc13, hb6⟩ := bind_some hb6
        refine TQ.s rfl rfl rfl (StepQ.call kcallB_16_true rfl rfl (fun _ st => C16 (OwnS.rd (SN.piece e0 hx9 0 rfl)) (OwnS.rd (SN.piece e1 hx11 0 rfl)) hc13 st)) ?_
        refine TQ.s rfl rfl rfl (StepS.not rfl).q ?_
        refine TQ.code ?_
        refine TC.cond rfl (fun hc14 => ?_) (fun hc14 => ?_)
        · replace hb6 := cond_t hc14 hb6
          refine TC.k ?_
          refine TC.region ?_
          refine TO.s rfl rfl rfl (StepS.assign rfl) ?_
          refine TO.code ?_
          cases hb6
          refine TC.ret fun a w e s => ?_
          refine FRet.mk1 (P := Tryd.prog) (fn := Tryd.f13) (t := 4) e rfl rfl ?_
          exact ⟨rfl, s.mono fun _ => Sat.dropN 0⟩
        · replace hb6 := cond_f hc14 hb6
          refine TC.skipk ?_
          refine TC.region ?_
          refine TO.s rfl rfl rfl (StepS.move rfl) ?_
          refine TO.s rfl rfl rfl (StepS.ari rfl rfl rfl) ?_
          refine TO.s rfl rfl rfl (StepS.assign rfl) ?_
          cases hb6
          refine TO.nil fun a w e s => ?_
          exact ⟨e.sub (lk_of_allIn ⟨rfl, rfl, rfl, trivial⟩), s⟩
      · replace hb6 := cond_f hc7 hb6
        cases hb6
        refine TC.exit rfl fun a w e s => ?_
        exact ⟨e.sub (lk_of_allIn trivial), s⟩
    · exact fun a w e s => ⟨e.sub (lk_of_allIn ⟨rfl, rfl, rfl, trivial⟩), s⟩
    · rintro _ rfl a w ⟨he, hs⟩
      dsimp only [Ctl.on] at hm
      refine TC.use ?_ he hs
      refine TC.k ?_
      refine TC.region ?_
      refine TO.s rfl rfl rfl (StepS.assign rfl) ?_
      refine TO.code ?_
      cases hm
      refine TC.ret fun a w e s => ?_
      refine FRet.mk1 (P := Tryd.prog) (fn := Tryd.f13) (t := 4) e rfl rfl ?_
      exact ⟨rfl, s.mono fun _ => Sat.dropN 0⟩
    · rintro r rfl
      cases hm
      exact fun a w h => h

set_option maxRecDepth 100000 in
theorem C6 {B : World} {L : List HP} {a0 : List (Int × ByteArray × ByteArray × Int)} {h0 : Value} {r0 : Bool} (e0 : Ent L (Rd 4 h0 (a0.map cTissi))) (hm : F6 a0 = some r0) {w : World} (st : St B L w) : Calls Tryd.prog 6 #[h0] w (fun e w' => (e = .returned (.bool r0) ∧ St B (L) w')) := by
  refine calls_of (N := 35) (L := L) (args := [h0]) Tryd.func6 rfl rfl rfl ?_ st
  dsimp only [F6] at hm
  refine TC.k ?_
  refine TC.region ?_
  refine TO.s rfl rfl rfl (StepS.assign rfl) ?_
  refine TO.code ?_
  refine TC.k ?_
  refine TC.region ?_
  refine TO.s rfl rfl rfl (StepS.move rfl) ?_
  obtain ⟨⟨r1, r2⟩, hc3, hm⟩ := bind_some hm
  refine TO.callO kcallB_15_true rfl rfl rfl (fun _ st => C15 e0 hc3 st) ?_
  rintro _ _ ⟨v4, hs5, rfl, rfl⟩
  refine TO.s rfl rfl rfl (StepS.move rfl) ?_
  refine TO.s rfl rfl rfl (StepS.extract rfl rfl) ?_
  refine TO.s rfl rfl rfl (StepS.extract rfl rfl) ?_
  refine TO.s rfl rfl rfl (StepS.assign rfl) ?_
  refine TO.s rfl rfl rfl (StepS.assign rfl) ?_
  refine TO.code ?_
  refine TC.k ?_
  refine TC.k ?_
  refine TC.region ?_
  refine TO.s rfl rfl rfl (StepS.move rfl) ?_
  refine TO.s rfl rfl rfl (StepS.lenm rfl e0.tl ksliceB_34_45_4_true rfl) ?_
  refine TO.s rfl rfl rfl (StepS.cmp rfl rfl rfl) ?_
  refine TO.code ?_
  refine TC.cond rfl (fun hc7 => ?_) (fun hc7 => ?_)
  · replace hm := cond_t hc7 hm
    refine TC.k ?_
    refine TC.region ?_
    refine TO.s rfl rfl rfl (StepS.move rfl) ?_
    refine TO.s rfl rfl rfl (StepS.cmp rfl rfl rfl) ?_
    refine TO.s rfl rfl rfl (StepS.move rfl) ?_
    refine TO.mid1 4 21 (.bool ((r2 == 1) && ((r1.length : Int) == 0))) ?_ ?_
    · refine bcase ((r2 == 1)) (fun hb8 => ?_) (fun hb8 => ?_)
      · refine TO.sw rfl rfl rfl hb8 rfl rfl (StepS.move rfl) ?_
        refine TO.sw rfl rfl rfl hb8 rfl rfl (StepS.lenN rfl (Ent.at 0 rfl) ksliceB_23_41_4_true rfl) ?_
        refine TO.sw rfl rfl rfl hb8 rfl rfl (StepS.cmp rfl rfl rfl) ?_
        refine TO.s rfl rfl rfl (StepS.pickT rfl hb8 rfl) ?_
        exact TO.up1 4 0 rfl rfl (by rw [hb8]; rfl) rfl
      · refine TO.skip rfl rfl rfl (skipF hb8) rfl rfl ?_
        refine TO.skip rfl rfl rfl (skipF hb8) rfl rfl ?_
        refine TO.skip rfl rfl rfl (skipF hb8) rfl rfl ?_
        refine TO.s rfl rfl rfl (StepS.pickF rfl hb8 rfl) ?_
        exact TO.up1 4 0 rfl rfl (by rw [hb8]; rfl) rfl
    refine TO.s rfl rfl rfl (StepS.assign rfl) ?_
    refine TO.code ?_
    cases hm
    refine TC.ret fun a w e s => ?_
    refine FRet.mk1 (P := Tryd.prog) (fn := Tryd.f6) (t := 2) e rfl rfl ?_
    exact ⟨rfl, s.mono fun _ => Sat.dropN 1⟩
  · replace hm := cond_f hc7 hm
    refine TC.skipk ?_
    refine TC.k ?_
    refine TC.region ?_
    obtain ⟨r9, hc10, hm⟩ := bind_some hm
    refine TO.callO kcallB_20_true rfl rfl rfl (fun _ st => C20  hc10 st) ?_
    rintro v11 _ ⟨_, rfl, rfl⟩
    refine TO.s rfl rfl rfl (StepS.move rfl) ?_
    obtain ⟨⟨r13, r14⟩, hc15, hm⟩ := bind_some hm
    refine TO.callO kcallB_19_true rfl rfl rfl (fun _ st => C19 e0.tl hc15 st) ?_
    rintro _ _ ⟨v16, v18, hs19, rfl, rfl⟩
    refine TO.s rfl rfl rfl (StepS.move rfl) ?_
    refine TO.s rfl rfl rfl (StepS.extract rfl rfl) ?_
    refine TO.s rfl rfl rfl (StepS.extract rfl rfl) ?_
    refine TO.s rfl rfl rfl (StepS.assign rfl) ?_
    refine TO.s rfl rfl rfl (StepS.assign rfl) ?_
    refine TO.code ?_
    refine TC.k ?_
    refine TC.region ?_
    refine TO.s rfl rfl rfl (StepS.move rfl) ?_
    refine TO.s rfl rfl rfl (StepS.cmp rfl rfl rfl) ?_
    refine TO.s rfl rfl rfl (StepS.move rfl) ?_
    obtain ⟨b22, hj23, hm⟩ := bind_some hm
    refine TO.mid1 4 34 (.bool b22) ?_ ?_
    · refine bcase ((r2 == 0)) (fun hb21 => ?_) (fun hb21 => ?_)
      · replace hj23 := cond_t hb21 hj23
        refine TO.sw rfl rfl rfl hb21 rfl rfl (StepS.move rfl) ?_
        refine TO.sw rfl rfl rfl hb21 rfl rfl (StepS.move rfl) ?_
        obtain ⟨r24, hc25, hj23⟩ := bind_some hj23
        refine TO.qw rfl rfl rfl hb21 rfl rfl (StepQ.call kcallB_13_true rfl rfl (fun _ st => C13 (Ent.at 2 rfl) (Ent.at 1 rfl) hc25 st)) ?_
        cases hj23
        refine TO.s rfl rfl rfl (StepS.pickT rfl hb21 rfl) ?_
        exact TO.up1 4 0 rfl rfl rfl rfl
      · replace hj23 := cond_f hb21 hj23
        cases hj23
        refine TO.skip rfl rfl rfl (skipF hb21) rfl rfl ?_
        refine TO.skip rfl rfl rfl (skipF hb21) rfl rfl ?_
        refine TO.skip rfl rfl rfl (skipF hb21) rfl rfl ?_
        refine TO.s rfl rfl rfl (StepS.pickF rfl hb21 rfl) ?_
        exact TO.up1 4 0 rfl rfl rfl rfl
    refine TO.s rfl rfl rfl (StepS.assign rfl) ?_
    refine TO.code ?_
    cases hm
    refine TC.ret fun a w e s => ?_
    refine FRet.mk1 (P := Tryd.prog) (fn := Tryd.f6) (t := 2) e rfl rfl ?_
    exact ⟨rfl, s.mono fun _ => Sat.dropN 3⟩
end Go.Proofs.YtadfgohglcglcaaDoor
