/-
  The walks: each Go function returns what its model says. Written by a program (gen.py).
-/
import Derived.Test.YtacggcanjanmkaaProg
import Derived.KernelRfl
import Derived.Test.YtacggcanjanmkaaAM
namespace Go.Proofs.Ytacggcanjanmkaa
open Go Go.Bk
set_option linter.unusedVariables false
set_option linter.unnecessarySimpa false
theorem kelemB_62_67_4_32_true : elemB Try.prog 62 67 4 32 = true := by kernel_rfl
theorem kinfo_67_bind_zero_some_agg_I_0_I_0_I_0_U_0 : (Try.prog.info? 67).bind (·.zero) = some (.agg #[I 0, I 0, I 0, U 0]) := by kernel_rfl
theorem kfieldB_64_0_0_true : fieldB Try.prog 64 0 0 = true := by kernel_rfl
theorem kscalB_62_true : scalB Try.prog 62 = true := by kernel_rfl
theorem ksliceB_62_67_4_true : sliceB Try.prog 62 67 4 = true := by kernel_rfl
theorem kfieldB_67_2_2_true : fieldB Try.prog 67 2 2 = true := by kernel_rfl
theorem ksizeB_3_1_true : sizeB Try.prog 3 1 = true := by kernel_rfl
theorem kfieldB_67_0_0_true : fieldB Try.prog 67 0 0 = true := by kernel_rfl
theorem kscalB_3_true : scalB Try.prog 3 = true := by kernel_rfl
theorem kfieldB_67_1_1_true : fieldB Try.prog 67 1 1 = true := by kernel_rfl
theorem kfollows_mixedOrders_true : Try.prog.follows .mixedOrders = true := by kernel_rfl
theorem kunderlying_9_some_string : Try.prog.underlying 9 = some .string := by kernel_rfl
theorem kintB_5_u8_true : intB Try.prog 5 .u8 = true := by kernel_rfl
theorem kintB_3_i64_true : intB Try.prog 3 .i64 = true := by kernel_rfl
theorem kfieldB_67_3_3_true : fieldB Try.prog 67 3 3 = true := by kernel_rfl
theorem kscalB_65_true : scalB Try.prog 65 = true := by kernel_rfl
theorem ksizeB_65_1_true : sizeB Try.prog 65 1 = true := by kernel_rfl
theorem kcallB_38_true : callB Try.prog 38 = true := by kernel_rfl
theorem kfieldB_64_1_1_true : fieldB Try.prog 64 1 1 = true := by kernel_rfl
theorem kscalB_57_true : scalB Try.prog 57 = true := by kernel_rfl
theorem kelemB_57_79_2_16_true : elemB Try.prog 57 79 2 16 = true := by kernel_rfl
theorem kinfo_79_bind_zero_some_agg_I_0_I_0 : (Try.prog.info? 79).bind (·.zero) = some (.agg #[I 0, I 0]) := by kernel_rfl
theorem ksizeB_57_1_true : sizeB Try.prog 57 1 = true := by kernel_rfl
theorem ksizeB_67_4_true : sizeB Try.prog 67 4 = true := by kernel_rfl
theorem kcallB_34_true : callB Try.prog 34 = true := by kernel_rfl
theorem kcallB_36_true : callB Try.prog 36 = true := by kernel_rfl
theorem ksliceB_36_52_2_true : sliceB Try.prog 36 52 2 = true := by kernel_rfl
theorem kelemB_36_52_2_16_true : elemB Try.prog 36 52 2 16 = true := by kernel_rfl
theorem ksliceB_23_28_1_true : sliceB Try.prog 23 28 1 = true := by kernel_rfl
theorem kscalB_28_true : scalB Try.prog 28 = true := by kernel_rfl
theorem ksliceB_24_3_1_true : sliceB Try.prog 24 3 1 = true := by kernel_rfl
theorem kaggB_52_2_true : aggB Try.prog 52 2 = true := by kernel_rfl
theorem kunderlying_52_some_struct_fieldsOf_52 : Try.prog.underlying 52 = some (.struct (Try.prog.fieldsOf 52)) := by kernel_rfl
theorem kstoodInHeld_52_false : Try.prog.stoodInHeld 52 = false := by kernel_rfl
theorem keqGuardType_depth_52_false : Try.prog.eqGuardType Try.prog.depth 52 = false := by kernel_rfl
theorem kcallB_17_true : callB Try.prog 17 = true := by kernel_rfl

set_option maxRecDepth 100000 in
theorem C10 {B : World} {L : List HP} {a0 : Int} {r0 : (List (Int × Int × Int × BitVec 32)) × List (Int × Int)} (hm : F10 a0 = some r0) {w : World} (st : St B L w) : Calls Try.prog 10 #[I a0] w (fun e w' => ∃ v M, e = .returned v ∧ (∃ (qb3 : Nat) (qv1 : Value) (qv2 : Value), v = .pointer (some ⟨qb3, 0, none⟩) ∧ M = (Bx qb3 64 [qv1, qv2] :: OwnS 67 4 qv1 (r0.1.map cTiiiiu32) :: OwnS 79 2 qv2 (r0.2.map cTii) :: L)) ∧ St B M w') := by
  refine calls_of (N := 26) (L := L) (args := [I a0]) Try.func10 rfl rfl rfl ?_ st
  dsimp only [F10] at hm
  refine TC.k ?_
  refine TC.region ?_
  refine TO.s rfl rfl rfl (StepS.assign rfl) ?_
  refine TO.code ?_
  refine TC.k ?_
  refine TC.region ?_
  refine TO.s rfl rfl rfl (StepS.move rfl) ?_
  obtain ⟨y3, hk4, hm⟩ := bind_some hm
  refine TO.mkS (f := cTiiiiu32) (za := (0, 0, 0, 0)) kelemB_62_67_4_32_true kinfo_67_bind_zero_some_agg_I_0_I_0_I_0_U_0 rfl (by decide) rfl rfl hk4 rfl fun v5 => ?_
  refine TO.pure (fun _ s => Rd.one (OwnS.rd (Ent.at 0 rfl)) s) fun oc7 => ?_
  refine TO.s rfl rfl rfl (StepS.buildS (us := [(0, .agg #[v5])]) (cs := [v5, .slice none 0 0]) rfl (by simp only [List.map_cons, List.map_nil, oc7.2] <;> rfl) (by kernel_rfl)) ?_
  refine TO.box (cs := [v5, .slice none 0 0]) rfl rfl rfl fun b8 => ?_
  refine TO.s rfl rfl rfl (StepS.assign rfl) ?_
  refine TO.code ?_
  refine TC.k ?_
  refine TC.k ?_
  refine TC.region ?_
  refine TO.s rfl rfl rfl (StepS.move rfl) ?_
  refine TO.s rfl rfl rfl (StepS.nilc rfl) ?_
  refine TO.s rfl rfl rfl (StepS.fld rfl kfieldB_64_0_0_true) ?_
  refine TO.s rfl rfl rfl (StepS.ldB rfl (Ent.at 0 rfl) kscalB_62_true rfl) ?_
  refine TO.s rfl rfl rfl (StepS.lenm rfl (OwnS.rd (Ent.at 1 rfl)) ksliceB_62_67_4_true rfl) ?_
  refine TO.s rfl rfl rfl (StepS.move rfl) ?_
  refine TO.code ?_
  obtain ⟨o14, hw15, hm⟩ := bind_some hm
  refine TC.loop hw15 (fun (y9, x10) => fun a w => Mid 26 B [(3, .pointer (some ⟨b8, 0, none⟩)), (13, I (y3.length : Int)), (14, I x10)] (Bx b8 64 [v5, .slice none 0 0] :: OwnS 67 4 v5 (y9.map cTiiiiu32) :: L) a w) (fun y13 => fun a w => Mid 26 B [(3, .pointer (some ⟨b8, 0, none⟩))] (Bx b8 64 [v5, .slice none 0 0] :: OwnS 67 4 v5 (y13.map cTiiiiu32) :: L) a w) (fun (_ : Unit) _ _ => False) ?_ ?_ ?_ ?_
  · rintro ⟨y9, x10⟩ o14r hb16 a w ⟨he, hs⟩
    dsimp only [F10_L0] at hb16
    refine TC.use ?_ he hs
    refine TC.k ?_
    refine TC.region ?_
    refine TO.s rfl rfl rfl (StepS.cmp rfl rfl rfl) ?_
    refine TO.code ?_
    refine TC.k ?_
    refine TC.cond rfl (fun hc17 => ?_) (fun hc17 => ?_)
    · replace hb16 := cond_t hc17 hb16
      refine TC.skipk ?_
      refine TC.k ?_
      refine TC.block ?_
      refine TC.k ?_
      refine TC.region ?_
      refine TO.s rfl rfl rfl (StepS.move rfl) ?_
      refine TO.s rfl rfl rfl (StepS.assign rfl) ?_
      refine TO.code ?_
      refine TC.region ?_
      refine TO.s rfl rfl rfl (StepS.move rfl) ?_
      refine TO.s rfl rfl rfl (StepS.nilc rfl) ?_
      refine TO.s rfl rfl rfl (StepS.fld rfl kfieldB_64_0_0_true) ?_
      refine TO.s rfl rfl rfl (StepS.ldB rfl (Ent.at 0 rfl) kscalB_62_true rfl) ?_
      refine TO.s rfl rfl rfl (StepS.move rfl) ?_
      obtain ⟨x18, hx19, hb16⟩ := bind_some hb16
      refine TO.s rfl rfl rfl (StepS.idx rfl rfl (OwnS.rd (Ent.at 1 rfl)) ksliceB_62_67_4_true (idx_spec hx19).1 (idxm_lt hx19)) ?_
      refine TO.s rfl rfl rfl (StepS.ptrf rfl kfieldB_67_2_2_true) ?_
      refine TO.stO (i := x10.toNat) (off := 2) (us := [I (-1)]) 1 (x18.1, x18.2.1, (-1), x18.2.2.2) rfl rfl rfl ksizeB_3_1_true rfl rfl rfl (idx_spec hx19).2 rfl (by simp [Value.oneCell']) rfl ?_
      refine TO.code ?_
      refine TC.region ?_
      refine TO.s rfl rfl rfl (StepS.ari rfl rfl rfl) ?_
      refine TO.s rfl rfl rfl (StepS.move rfl) ?_
      cases hb16
      refine TO.nil fun a w e s => ?_
      exact ⟨e.sub (lk_of_allIn ⟨rfl, rfl, rfl, trivial⟩), s⟩
    · replace hb16 := cond_f hc17 hb16
      cases hb16
      refine TC.exit rfl fun a w e s => ?_
      exact ⟨e.sub (lk_of_allIn ⟨rfl, trivial⟩), s⟩
  · exact fun a w e s => ⟨e.sub (lk_of_allIn ⟨rfl, rfl, rfl, trivial⟩), s⟩
  · rintro y13 rfl a w ⟨he, hs⟩
    dsimp only [Ctl.on] at hm
    refine TC.use ?_ he hs
    refine TC.k ?_
    refine TC.region ?_
    refine TO.s rfl rfl rfl (StepS.move rfl) ?_
    refine TO.s rfl rfl rfl (StepS.assign rfl) ?_
    refine TO.code ?_
    cases hm
    refine TC.ret fun a w e s => ?_
    refine FRet.mk1 (P := Try.prog) (fn := Try.f10) (t := 2) e rfl rfl ?_
    refine ⟨_, _, rfl, ⟨b8, (v5), (.slice none 0 0), rfl, rfl⟩, ?_⟩
    refine s.mono fun _ s => ?_
    replace s := Sat.nilS (e := 79) (sz := 2) (f := cTii) s
    replace s := Sat.front 2 rfl s
    replace s := Sat.front 2 rfl s
    exact s
  · rintro r rfl
    exact fun a w h => h.elim

set_option maxRecDepth 100000 in
theorem C12 {B : World} {L : List HP} {a0_0 : List (Int × Int × Int × BitVec 32)} {a0_1 : List (Int × Int)} {a1 : Int} {b0_ : Nat} {h0_0 : Value} {h0_1 : Value} {r0 : Int} (g0 : Ent L (Bx b0_ 64 [h0_0, h0_1])) (e0_0 : Ent L (Rd 4 h0_0 (a0_0.map cTiiiiu32))) (e0_1 : Ent L (Rd 2 h0_1 (a0_1.map cTii))) (hm : F12 a0_0 a0_1 a1 = some r0) {w : World} (st : St B L w) : Calls Try.prog 12 #[.pointer (some ⟨b0_, 0, none⟩), I a1] w (fun e w' => (e = .returned (I r0) ∧ St B (L) w')) := by
  refine calls_of (N := 13) (L := L) (args := [.pointer (some ⟨b0_, 0, none⟩), I a1]) Try.func12 rfl rfl rfl ?_ st
  dsimp only [F12] at hm
  refine TC.k ?_
  refine TC.region ?_
  refine TO.s rfl rfl rfl (StepS.assign rfl) ?_
  refine TO.code ?_
  refine TC.k ?_
  refine TC.region ?_
  refine TO.s rfl rfl rfl (StepS.move rfl) ?_
  refine TO.s rfl rfl rfl (StepS.nilc rfl) ?_
  refine TO.s rfl rfl rfl (StepS.fld rfl kfieldB_64_0_0_true) ?_
  refine TO.s rfl rfl rfl (StepS.ldB rfl g0 kscalB_62_true rfl) ?_
  refine TO.s rfl rfl rfl (StepS.move rfl) ?_
  obtain ⟨x1, hx2, hm⟩ := bind_some hm
  refine TO.s rfl rfl rfl (StepS.idx rfl rfl e0_0 ksliceB_62_67_4_true (idx_spec hx2).1 (idxm_lt hx2)) ?_
  refine TO.s rfl rfl rfl (StepS.ptrf rfl kfieldB_67_0_0_true) ?_
  refine TO.s rfl rfl rfl (StepS.ld1 rfl e0_0 kscalB_3_true rfl (idxm hx2) rfl) ?_
  refine TO.s rfl rfl rfl (StepS.assign rfl) ?_
  refine TO.code ?_
  cases hm
  refine TC.ret fun a w e s => ?_
  refine FRet.mk1 (P := Try.prog) (fn := Try.f12) (t := 4) e rfl rfl ?_
  exact ⟨rfl, s.mono fun _ => Sat.dropN 0⟩

set_option maxRecDepth 100000 in
theorem C13 {B : World} {L : List HP} {a0_0 : List (Int × Int × Int × BitVec 32)} {a0_1 : List (Int × Int)} {a1 : Int} {b0_ : Nat} {h0_0 : Value} {h0_1 : Value} {r0 : Int} (g0 : Ent L (Bx b0_ 64 [h0_0, h0_1])) (e0_0 : Ent L (Rd 4 h0_0 (a0_0.map cTiiiiu32))) (e0_1 : Ent L (Rd 2 h0_1 (a0_1.map cTii))) (hm : F13 a0_0 a0_1 a1 = some r0) {w : World} (st : St B L w) : Calls Try.prog 13 #[.pointer (some ⟨b0_, 0, none⟩), I a1] w (fun e w' => (e = .returned (I r0) ∧ St B (L) w')) := by
  refine calls_of (N := 13) (L := L) (args := [.pointer (some ⟨b0_, 0, none⟩), I a1]) Try.func13 rfl rfl rfl ?_ st
  dsimp only [F13] at hm
  refine TC.k ?_
  refine TC.region ?_
  refine TO.s rfl rfl rfl (StepS.assign rfl) ?_
  refine TO.code ?_
  refine TC.k ?_
  refine TC.region ?_
  refine TO.s rfl rfl rfl (StepS.move rfl) ?_
  refine TO.s rfl rfl rfl (StepS.nilc rfl) ?_
  refine TO.s rfl rfl rfl (StepS.fld rfl kfieldB_64_0_0_true) ?_
  refine TO.s rfl rfl rfl (StepS.ldB rfl g0 kscalB_62_true rfl) ?_
  refine TO.s rfl rfl rfl (StepS.move rfl) ?_
  obtain ⟨x1, hx2, hm⟩ := bind_some hm
  refine TO.s rfl rfl rfl (StepS.idx rfl rfl e0_0 ksliceB_62_67_4_true (idx_spec hx2).1 (idxm_lt hx2)) ?_
  refine TO.s rfl rfl rfl (StepS.ptrf rfl kfieldB_67_1_1_true) ?_
  refine TO.s rfl rfl rfl (StepS.ld1 rfl e0_0 kscalB_3_true rfl (idxm hx2) rfl) ?_
  refine TO.s rfl rfl rfl (StepS.assign rfl) ?_
  refine TO.code ?_
  cases hm
  refine TC.ret fun a w e s => ?_
  refine FRet.mk1 (P := Try.prog) (fn := Try.f13) (t := 4) e rfl rfl ?_
  exact ⟨rfl, s.mono fun _ => Sat.dropN 0⟩

set_option maxRecDepth 100000 in
theorem C38 {B : World} {L : List HP} {a0 : BitVec 32} {r0 : Int} (hm : F38 a0 = some r0) {w : World} (st : St B L w) : Calls Try.prog 38 #[U a0] w (fun e w' => (e = .returned (I r0) ∧ St B (L) w')) := by
  refine calls_of (N := 21) (L := L) (args := [U a0]) Try.func38 rfl rfl rfl ?_ st
  dsimp only [F38] at hm
  refine TC.k ?_
  refine TC.region ?_
  refine TO.s rfl rfl rfl (StepS.assign rfl) ?_
  refine TO.code ?_
  refine TC.k ?_
  refine TC.region_still kfollows_mixedOrders_true (by kernel_rfl) ?_
  refine TS.s rfl rfl rfl (StepS.move rfl) ?_
  refine TS.s rfl rfl rfl (StepS.shr rfl rfl (by decide)) ?_
  obtain ⟨x1, hx2, hm⟩ := bind_some hm
  refine TS.s rfl rfl rfl (StepS.idxTab rfl kunderlying_9_some_string (by kernel_rfl) hx2) ?_
  refine TS.s rfl rfl rfl (StepS.move rfl) ?_
  refine TS.s rfl rfl rfl (StepS.shr rfl rfl (by decide)) ?_
  refine TS.s rfl rfl rfl (StepS.bitU (n := 255#32) rfl rfl rfl) ?_
  obtain ⟨x3, hx4, hm⟩ := bind_some hm
  refine TS.s rfl rfl rfl (StepS.idxTab rfl kunderlying_9_some_string (by kernel_rfl) hx4) ?_
  refine TS.s rfl rfl rfl (StepS.addB rfl rfl) ?_
  refine TS.s rfl rfl rfl (StepS.move rfl) ?_
  refine TS.s rfl rfl rfl (StepS.shr rfl rfl (by decide)) ?_
  refine TS.s rfl rfl rfl (StepS.bitU (n := 255#32) rfl rfl rfl) ?_
  obtain ⟨x5, hx6, hm⟩ := bind_some hm
  refine TS.s rfl rfl rfl (StepS.idxTab rfl kunderlying_9_some_string (by kernel_rfl) hx6) ?_
  refine TS.s rfl rfl rfl (StepS.addB rfl rfl) ?_
  refine TS.s rfl rfl rfl (StepS.move rfl) ?_
  refine TS.s rfl rfl rfl (StepS.bitU (n := 255#32) rfl rfl rfl) ?_
  obtain ⟨x7, hx8, hm⟩ := bind_some hm
  refine TS.s rfl rfl rfl (StepS.idxTab rfl kunderlying_9_some_string (by kernel_rfl) hx8) ?_
  refine TS.s rfl rfl rfl (StepS.addB rfl rfl) ?_
  refine TS.s rfl rfl rfl (StepS.cvB kintB_5_u8_true kintB_3_i64_true rfl) ?_
  refine TS.s rfl rfl rfl (StepS.assign rfl) ?_
  refine TS.code ?_
  cases hm
  refine TC.ret fun a w e s => ?_
  refine FRet.mk1 (P := Try.prog) (fn := Try.f38) (t := 2) e rfl rfl ?_
  exact ⟨rfl, s.mono fun _ => Sat.dropN 0⟩

set_option maxRecDepth 100000 in
theorem C34 {B : World} {L : List HP} {a0 : (List (Int × Int × Int × BitVec 32)) × List (Int × Int)} {a1 : Int} {a2 : Int} {b0_ : Nat} {h0_1 : Value} {h0_2 : Value} {s0 : (List (Int × Int × Int × BitVec 32)) × List (Int × Int)} (hm : F34 a0 a1 a2 = some s0) {w : World} (st : St B (Bx b0_ 64 [h0_1, h0_2] :: OwnS 67 4 h0_1 (a0.1.map cTiiiiu32) :: OwnS 79 2 h0_2 (a0.2.map cTii) :: L) w) : Calls Try.prog 34 #[.pointer (some ⟨b0_, 0, none⟩), I a1, I a2] w (fun e w' => ∃ v M, e = .returned v ∧ (∃ (qv1 : Value), v = .tuple #[] ∧ M = (Bx b0_ 64 [h0_1, qv1] :: OwnS 67 4 h0_1 (s0.1.map cTiiiiu32) :: OwnS 79 2 qv1 (s0.2.map cTii) :: L)) ∧ St B M w') := by
  refine calls_of (N := 59) (L := (Bx b0_ 64 [h0_1, h0_2] :: OwnS 67 4 h0_1 (a0.1.map cTiiiiu32) :: OwnS 79 2 h0_2 (a0.2.map cTii) :: L)) (args := [.pointer (some ⟨b0_, 0, none⟩), I a1, I a2]) Try.func34 rfl rfl rfl ?_ st
  dsimp only [F34] at hm
  refine TC.k ?_
  refine TC.region ?_
  refine TO.s rfl rfl rfl (StepS.move rfl) ?_
  refine TO.s rfl rfl rfl (StepS.nilc rfl) ?_
  refine TO.s rfl rfl rfl (StepS.fld rfl kfieldB_64_0_0_true) ?_
  refine TO.s rfl rfl rfl (StepS.ldB rfl (Ent.at 0 rfl) kscalB_62_true rfl) ?_
  refine TO.s rfl rfl rfl (StepS.move rfl) ?_
  obtain ⟨x5, hx6, hm⟩ := bind_some hm
  refine TO.s rfl rfl rfl (StepS.idx rfl rfl (OwnS.rd (Ent.at 1 rfl)) ksliceB_62_67_4_true (idx_spec hx6).1 (idxm_lt hx6)) ?_
  refine TO.s rfl rfl rfl (StepS.assign rfl) ?_
  refine TO.code ?_
  refine TC.k ?_
  refine TC.region_tail 9 kfollows_mixedOrders_true (by kernel_rfl) ?_
  refine TS.s rfl rfl rfl (StepS.move rfl) ?_
  refine TS.s rfl rfl rfl (StepS.nilc rfl) ?_
  refine TS.s rfl rfl rfl (StepS.ptrf rfl kfieldB_67_3_3_true) ?_
  refine TS.s rfl rfl rfl (StepS.ld1 rfl (OwnS.rd (Ent.at 1 rfl)) kscalB_65_true rfl (idxm hx6) rfl) ?_
  refine TS.s rfl rfl rfl (StepS.move rfl) ?_
  obtain ⟨k7, hk8, hm⟩ := bind_some hm
  refine TS.s rfl rfl rfl (StepS.shlk (m := 1#32) rfl rfl hk8) ?_
  refine TS.s rfl rfl rfl (StepS.bitU rfl rfl rfl) ?_
  refine TS.s rfl rfl rfl (StepS.nilc rfl) ?_
  refine TS.s rfl rfl rfl (StepS.ptrf rfl kfieldB_67_3_3_true) ?_
  refine TS.nil ?_
  refine TO.at ?_
  refine TO.stO (i := a1.toNat) (off := 3) (us := [U (x5.2.2.2 ||| ((1#32) <<< k7))]) 1 (x5.1, x5.2.1, x5.2.2.1, (x5.2.2.2 ||| ((1#32) <<< k7))) rfl rfl rfl ksizeB_65_1_true rfl rfl rfl (idx_spec hx6).2 rfl (by simp [Value.oneCell']) rfl ?_
  refine TO.code ?_
  refine TC.k ?_
  refine TC.region_quiet kfollows_mixedOrders_true (by kernel_rfl) ?_
  refine TQ.s rfl rfl rfl (StepS.move rfl).q ?_
  refine TQ.s rfl rfl rfl (StepS.nilc rfl).q ?_
  refine TQ.s rfl rfl rfl (StepS.ptrf rfl kfieldB_67_1_1_true).q ?_
  obtain ⟨x9, hx10, hm⟩ := bind_some hm
  refine TQ.s rfl rfl rfl (StepS.ld1 rfl (OwnS.rd (Ent.at 1 rfl)) kscalB_3_true rfl (idxm hx10) rfl).q ?_
  refine TQ.s rfl rfl rfl (StepS.cmp rfl rfl rfl).q ?_
  refine TQ.s rfl rfl rfl (StepS.move rfl).q ?_
  obtain ⟨b12, hj13, hm⟩ := bind_some hm
  refine TQ.mid1 13 40 (.bool b12) ?_ ?_
  · refine bcase ((x9.2.1 == 1)) (fun hb11 => ?_) (fun hb11 => ?_)
    · replace hj13 := cond_t hb11 hj13
      refine TQ.sw rfl rfl rfl hb11 rfl rfl (StepS.move rfl).q ?_
      refine TQ.sw rfl rfl rfl hb11 rfl rfl (StepS.nilc rfl).q ?_
      refine TQ.sw rfl rfl rfl hb11 rfl rfl (StepS.ptrf rfl kfieldB_67_3_3_true).q ?_
      obtain ⟨x14, hx15, hj13⟩ := bind_some hj13
      refine TQ.sw rfl rfl rfl hb11 rfl rfl (StepS.ld1 rfl (OwnS.rd (Ent.at 1 rfl)) kscalB_65_true rfl (idxm hx15) rfl).q ?_
      obtain ⟨r16, hc17, hj13⟩ := bind_some hj13
      refine TQ.sw rfl rfl rfl hb11 rfl rfl (StepQ.call kcallB_38_true rfl rfl (fun _ st => C38  hc17 st)) ?_
      refine TQ.sw rfl rfl rfl hb11 rfl rfl (StepS.ari rfl rfl rfl).q ?_
      refine TQ.sw rfl rfl rfl hb11 rfl rfl (StepS.move rfl).q ?_
      refine TQ.sw rfl rfl rfl hb11 rfl rfl (StepS.nilc rfl).q ?_
      refine TQ.sw rfl rfl rfl hb11 rfl rfl (StepS.fld rfl kfieldB_64_0_0_true).q ?_
      refine TQ.sw rfl rfl rfl hb11 rfl rfl (StepS.ldB rfl (Ent.at 0 rfl) kscalB_62_true rfl).q ?_
      refine TQ.sw rfl rfl rfl hb11 rfl rfl (StepS.lenm rfl (OwnS.rd (Ent.at 1 rfl)) ksliceB_62_67_4_true rfl).q ?_
      refine TQ.sw rfl rfl rfl hb11 rfl rfl (StepS.cmp rfl rfl rfl).q ?_
      cases hj13
      refine TQ.s rfl rfl rfl (StepS.pickT rfl hb11 rfl).q ?_
      exact TQ.up1 13 0 rfl rfl rfl rfl
    · replace hj13 := cond_f hb11 hj13
      cases hj13
      refine TQ.skip rfl rfl rfl (skipF hb11) rfl rfl ?_
      refine TQ.skip rfl rfl rfl (skipF hb11) rfl rfl ?_
      refine TQ.skip rfl rfl rfl (skipF hb11) rfl rfl ?_
      refine TQ.skip rfl rfl rfl (skipF hb11) rfl rfl ?_
      refine TQ.skip rfl rfl rfl (skipF hb11) rfl rfl ?_
      refine TQ.skip rfl rfl rfl (skipF hb11) rfl rfl ?_
      refine TQ.skip rfl rfl rfl (skipF hb11) rfl rfl ?_
      refine TQ.skip rfl rfl rfl (skipF hb11) rfl rfl ?_
      refine TQ.skip rfl rfl rfl (skipF hb11) rfl rfl ?_
      refine TQ.skip rfl rfl rfl (skipF hb11) rfl rfl ?_
      refine TQ.skip rfl rfl rfl (skipF hb11) rfl rfl ?_
      refine TQ.skip rfl rfl rfl (skipF hb11) rfl rfl ?_
      refine TQ.s rfl rfl rfl (StepS.pickF rfl hb11 rfl).q ?_
      exact TQ.up1 13 0 rfl rfl rfl rfl
  refine TQ.code ?_
  refine TC.cond rfl (fun hc18 => ?_) (fun hc18 => ?_)
  · replace hm := cond_t hc18 hm
    refine TC.k ?_
    refine TC.region ?_
    refine TO.s rfl rfl rfl (StepS.move rfl) ?_
    refine TO.s rfl rfl rfl (StepS.nilc rfl) ?_
    refine TO.s rfl rfl rfl (StepS.ptrf rfl kfieldB_67_1_1_true) ?_
    obtain ⟨x19, hx20, hm⟩ := bind_some hm
    refine TO.stO (i := a1.toNat) (off := 1) (us := [I 2]) 1 (x19.1, 2, x19.2.2.1, x19.2.2.2) rfl rfl rfl ksizeB_3_1_true rfl rfl rfl (idx_spec hx20).2 rfl (by simp [Value.oneCell']) rfl ?_
    refine TO.code ?_
    refine TC.region_any (Bx b0_ 64 [h0_1, h0_2] :: OwnS 67 4 h0_1 (((a0.1.set a1.toNat (x5.1, x5.2.1, x5.2.2.1, (x5.2.2.2 ||| ((1#32) <<< k7)))).set a1.toNat (x19.1, 2, x19.2.2.1, x19.2.2.2)).map cTiiiiu32) :: L) 15 16 kfollows_mixedOrders_true rfl ?_
    refine TA.takeW 0 rfl rfl rfl rfl (StepS.move rfl) (by kernel_rfl) (by kernel_rfl) (by kernel_rfl) rfl (.inr (fun _ s => Sat.by [1, 1] 2 1 (by kernel_rfl) s)) ?_
    refine TA.takeW 1 rfl rfl rfl rfl (StepS.move rfl) (by kernel_rfl) (by kernel_rfl) (by kernel_rfl) rfl (.inr (fun _ s => Sat.by [1, 1] 2 1 (by kernel_rfl) s)) ?_
    refine TA.takeW 2 rfl rfl rfl rfl (StepS.nilc rfl) (by kernel_rfl) (by kernel_rfl) (by kernel_rfl) rfl (.inr (fun _ s => Sat.by [1, 1] 2 1 (by kernel_rfl) s)) ?_
    refine TA.takeW 3 rfl rfl rfl rfl (StepS.fld rfl kfieldB_64_1_1_true) (by kernel_rfl) (by kernel_rfl) (by kernel_rfl) rfl (.inr (fun _ s => Sat.by [1, 1] 2 1 (by kernel_rfl) s)) ?_
    refine TA.take 4 rfl rfl rfl rfl (StepS.ldB rfl (Ent.at 0 rfl) kscalB_57_true rfl) (by kernel_rfl) (by kernel_rfl) (by kernel_rfl) (by kernel_rfl) (by kernel_rfl) (fun _ s => Sat.by [1, 1] 2 1 (by kernel_rfl) s) ?_
    refine TA.takeW 5 rfl rfl rfl rfl (StepS.move rfl) (by kernel_rfl) (by kernel_rfl) (by kernel_rfl) rfl (.inr (fun _ s => Sat.by [1, 1] 2 1 (by kernel_rfl) s)) ?_
    refine TA.takeW 6 rfl rfl rfl rfl (StepS.nilc rfl) (by kernel_rfl) (by kernel_rfl) (by kernel_rfl) rfl (.inr (fun _ s => Sat.by [1, 1] 2 1 (by kernel_rfl) s)) ?_
    refine TA.takeW 7 rfl rfl rfl rfl (StepS.ptrf rfl kfieldB_67_0_0_true) (by kernel_rfl) (by kernel_rfl) (by kernel_rfl) rfl (.inr (fun _ s => Sat.by [1, 1] 2 1 (by kernel_rfl) s)) ?_
    obtain ⟨xq21_8_1, hxq21_8_2, hm⟩ := bind_some hm
    refine TA.take 8 rfl rfl rfl rfl (StepS.ld1 rfl (OwnS.rd (Ent.at 1 rfl)) kscalB_3_true rfl (idxm hxq21_8_2) rfl) (by kernel_rfl) (by kernel_rfl) (by kernel_rfl) (by kernel_rfl) (by kernel_rfl) (fun _ s => Sat.by [1, 1] 2 1 (by kernel_rfl) s) ?_
    refine TA.takeW 9 rfl rfl rfl rfl (StepS.move rfl) (by kernel_rfl) (by kernel_rfl) (by kernel_rfl) rfl (.inr (fun _ s => Sat.by [1, 1] 2 1 (by kernel_rfl) s)) ?_
    refine TA.takeW 10 rfl rfl rfl rfl (StepS.build (cs := [I xq21_8_1.1, I a1]) rfl (by kernel_rfl)) (by kernel_rfl) (by kernel_rfl) (by kernel_rfl) rfl (.inr (fun _ s => Sat.by [1, 1] 2 1 (by kernel_rfl) s)) ?_
    refine TA.all1 (i := 11) (by kernel_rfl) ?_
    refine TB.of rfl ?_
    refine TO.litS (f := cTii) ([(xq21_8_1.1, a1)] : List (Int × Int)) kelemB_57_79_2_16_true kinfo_79_bind_zero_some_agg_I_0_I_0 rfl rfl (fun _ => rfl) rfl rfl (by kernel_rfl) rfl fun vq21_11_1 => ?_
    refine TA.back (.inr (fun _ s => Sat.by [2, 2] 2 2 (by kernel_rfl) s)) ?_
    refine TA.asL (L' := (OwnS 79 2 vq21_11_1 (([(xq21_8_1.1, a1)] : List (Int × Int)).map cTii) :: Bx b0_ 64 [h0_1, h0_2] :: OwnS 67 4 h0_1 (((a0.1.set a1.toNat (x5.1, x5.2.1, x5.2.2.1, (x5.2.2.2 ||| ((1#32) <<< k7)))).set a1.toNat (x19.1, 2, x19.2.2.1, x19.2.2.2)).map cTiiiiu32) :: OwnS 79 2 h0_2 (a0.2.map cTii) :: L)) (listed' := #[true, true, true, true, true, true, true, true, true, true, true, true, false, false, false, false]) (by kernel_rfl) (by kernel_rfl) ?_
    refine TA.all1 (i := 12) (by kernel_rfl) ?_
    refine TB.of rfl ?_
    obtain ⟨yq21_12_1, hkq21_12_2, hm⟩ := bind_some hm
    refine TO.app (k := 3) (f := cTii) kelemB_57_79_2_16_true (by decide) rfl rfl rfl (OwnS.rd (Ent.at 0 rfl)) hkq21_12_2 (fun x c hc => by simp [Value.oneCell'] at hc ⊢; first | (obtain rfl := hc; rfl) | (rcases hc with rfl | rfl <;> rfl)) rfl rfl fun vq21_12_3 => ?_
    refine TA.back (.inr (fun _ s => Sat.by [2, 2] 2 2 (by kernel_rfl) s)) ?_
    refine TA.asL (L' := (OwnS 79 2 vq21_11_1 (([(xq21_8_1.1, a1)] : List (Int × Int)).map cTii) :: Bx b0_ 64 [h0_1, h0_2] :: OwnS 67 4 h0_1 (((a0.1.set a1.toNat (x5.1, x5.2.1, x5.2.2.1, (x5.2.2.2 ||| ((1#32) <<< k7)))).set a1.toNat (x19.1, 2, x19.2.2.1, x19.2.2.2)).map cTiiiiu32) :: OwnS 79 2 vq21_12_3 (yq21_12_1.map cTii) :: L)) (listed' := #[true, true, true, true, true, true, true, true, true, true, true, true, true, false, false, false]) (by kernel_rfl) (by kernel_rfl) ?_
    refine TA.takeW 13 rfl rfl rfl rfl (StepS.nilc rfl) (by kernel_rfl) (by kernel_rfl) (by kernel_rfl) rfl (.inr (fun _ s => Sat.by [2, 2] 2 2 (by kernel_rfl) s)) ?_
    refine TA.takeW 14 rfl rfl rfl rfl (StepS.fld rfl kfieldB_64_1_1_true) (by kernel_rfl) (by kernel_rfl) (by kernel_rfl) rfl (.inr (fun _ s => Sat.by [2, 2] 2 2 (by kernel_rfl) s)) ?_
    refine TA.all1 (i := 15) (by kernel_rfl) ?_
    refine TB.of rfl ?_
    refine TO.pure (fun _ s => Rd.one (OwnS.rd (Ent.at 3 rfl)) s) fun ocq21_15_1 => ?_
    refine TO.stB (us := [vq21_12_3]) 1 [h0_1, vq21_12_3] rfl rfl rfl ksizeB_57_1_true ocq21_15_1.2 rfl rfl (by intro u hu; simp only [List.mem_cons, List.not_mem_nil, or_false] at hu; rcases hu with rfl <;> first | exact ocq21_15_1.1 | rfl) rfl ?_
    refine TA.back (.inl (by kernel_rfl)) ?_
    refine TA.asL (L' := (OwnS 79 2 vq21_11_1 (([(xq21_8_1.1, a1)] : List (Int × Int)).map cTii) :: Bx b0_ 64 [h0_1, vq21_12_3] :: OwnS 67 4 h0_1 (((a0.1.set a1.toNat (x5.1, x5.2.1, x5.2.2.1, (x5.2.2.2 ||| ((1#32) <<< k7)))).set a1.toNat (x19.1, 2, x19.2.2.1, x19.2.2.2)).map cTiiiiu32) :: OwnS 79 2 vq21_12_3 (yq21_12_1.map cTii) :: L)) (listed' := #[true, true, true, true, true, true, true, true, true, true, true, true, true, true, true, true]) (by kernel_rfl) (by kernel_rfl) ?_
    cases hm
    refine TA.nil (by kernel_rfl) fun a w e s => ?_
    refine FRet.mk0 (P := Try.prog) (fn := Try.f34) e rfl ?_
    refine ⟨_, _, rfl, ⟨(vq21_12_3), rfl, rfl⟩, ?_⟩
    refine s.mono fun _ s => ?_
    replace s := Sat.front 3 rfl s
    replace s := Sat.front 3 rfl s
    replace s := Sat.front 3 rfl s
    replace s := Sat.erase 3 s
    exact s
  · replace hm := cond_f hc18 hm
    cases hm
    refine TC.skip fun a w e s => ?_
    refine FRet.mk0 (P := Try.prog) (fn := Try.f34) e rfl ?_
    refine ⟨_, _, rfl, ⟨(h0_2), rfl, rfl⟩, ?_⟩
    refine s.mono fun _ s => ?_
    replace s := Sat.front 2 rfl s
    replace s := Sat.front 2 rfl s
    replace s := Sat.front 2 rfl s
    exact s

set_option maxRecDepth 100000 in
theorem C28 {B : World} {L : List HP} {a0 : (List (Int × Int × Int × BitVec 32)) × List (Int × Int)} {a1 : Int} {b0_ : Nat} {h0_1 : Value} {h0_2 : Value} {r0 : Int} {s0 : (List (Int × Int × Int × BitVec 32)) × List (Int × Int)} (hm : F28 a0 a1 = some (r0, s0)) {w : World} (st : St B (Bx b0_ 64 [h0_1, h0_2] :: OwnS 67 4 h0_1 (a0.1.map cTiiiiu32) :: OwnS 79 2 h0_2 (a0.2.map cTii) :: L) w) : Calls Try.prog 28 #[.pointer (some ⟨b0_, 0, none⟩), I a1] w (fun e w' => ∃ v M, e = .returned v ∧ (∃ (qv1 : Value), v = I r0 ∧ M = (Bx b0_ 64 [h0_1, qv1] :: OwnS 67 4 h0_1 (s0.1.map cTiiiiu32) :: OwnS 79 2 qv1 (s0.2.map cTii) :: L)) ∧ St B M w') := by
  refine calls_of (N := 35) (L := (Bx b0_ 64 [h0_1, h0_2] :: OwnS 67 4 h0_1 (a0.1.map cTiiiiu32) :: OwnS 79 2 h0_2 (a0.2.map cTii) :: L)) (args := [.pointer (some ⟨b0_, 0, none⟩), I a1]) Try.func28 rfl rfl rfl ?_ st
  dsimp only [F28] at hm
  refine TC.k ?_
  refine TC.region ?_
  refine TO.s rfl rfl rfl (StepS.assign rfl) ?_
  refine TO.code ?_
  refine TC.k ?_
  refine TC.k ?_
  refine TC.region ?_
  refine TO.s rfl rfl rfl (StepS.move rfl) ?_
  refine TO.s rfl rfl rfl (StepS.nilc rfl) ?_
  refine TO.s rfl rfl rfl (StepS.fld rfl kfieldB_64_0_0_true) ?_
  refine TO.s rfl rfl rfl (StepS.ldB rfl (Ent.at 0 rfl) kscalB_62_true rfl) ?_
  refine TO.s rfl rfl rfl (StepS.move rfl) ?_
  obtain ⟨x5, hx6, hm⟩ := bind_some hm
  refine TO.s rfl rfl rfl (StepS.idx rfl rfl (OwnS.rd (Ent.at 1 rfl)) ksliceB_62_67_4_true (idx_spec hx6).1 (idxm_lt hx6)) ?_
  refine TO.s rfl rfl rfl (StepS.ptrf rfl kfieldB_67_1_1_true) ?_
  refine TO.s rfl rfl rfl (StepS.ld1 rfl (OwnS.rd (Ent.at 1 rfl)) kscalB_3_true rfl (idxm hx6) rfl) ?_
  refine TO.s rfl rfl rfl (StepS.cmp rfl rfl rfl) ?_
  refine TO.code ?_
  refine TC.cond rfl (fun hc7 => ?_) (fun hc7 => ?_)
  · replace hm := cond_t hc7 hm
    refine TC.k ?_
    refine TC.region ?_
    refine TO.s rfl rfl rfl (StepS.assign rfl) ?_
    refine TO.code ?_
    cases hm
    refine TC.ret fun a w e s => ?_
    refine FRet.mk1 (P := Try.prog) (fn := Try.f28) (t := 4) e rfl rfl ?_
    refine ⟨_, _, rfl, ⟨(h0_2), rfl, rfl⟩, ?_⟩
    refine s.mono fun _ s => ?_
    replace s := Sat.front 2 rfl s
    replace s := Sat.front 2 rfl s
    replace s := Sat.front 2 rfl s
    exact s
  · replace hm := cond_f hc7 hm
    refine TC.skipk ?_
    refine TC.k ?_
    refine TC.region_tail 17 kfollows_mixedOrders_true (by kernel_rfl) ?_
    refine TS.s rfl rfl rfl (StepS.move rfl) ?_
    refine TS.s rfl rfl rfl (StepS.nilc rfl) ?_
    refine TS.s rfl rfl rfl (StepS.fld rfl kfieldB_64_0_0_true) ?_
    refine TS.s rfl rfl rfl (StepS.ldB rfl (Ent.at 0 rfl) kscalB_62_true rfl) ?_
    refine TS.s rfl rfl rfl (StepS.move rfl) ?_
    refine TS.s rfl rfl rfl (StepS.move rfl) ?_
    refine TS.s rfl rfl rfl (StepS.nilc rfl) ?_
    refine TS.s rfl rfl rfl (StepS.fld rfl kfieldB_64_0_0_true) ?_
    refine TS.s rfl rfl rfl (StepS.ldB rfl (Ent.at 0 rfl) kscalB_62_true rfl) ?_
    refine TS.s rfl rfl rfl (StepS.move rfl) ?_
    obtain ⟨x8, hx9, hm⟩ := bind_some hm
    refine TS.s rfl rfl rfl (StepS.idx rfl rfl (OwnS.rd (Ent.at 1 rfl)) ksliceB_62_67_4_true (idx_spec hx9).1 (idxm_lt hx9)) ?_
    refine TS.s rfl rfl rfl (StepS.ptrf rfl kfieldB_67_0_0_true) ?_
    refine TS.s rfl rfl rfl (StepS.ld1 rfl (OwnS.rd (Ent.at 1 rfl)) kscalB_3_true rfl (idxm hx9) rfl) ?_
    refine TS.s rfl rfl rfl (StepS.ari rfl rfl rfl) ?_
    refine TS.s rfl rfl rfl (StepS.move rfl) ?_
    refine TS.s rfl rfl rfl (StepS.build (cs := [I (w64 (x8.1 + 1)), I 1, I a1, U 0]) rfl (by kernel_rfl)) ?_
    obtain ⟨x10, hx11, hm⟩ := bind_some hm
    refine TS.s rfl rfl rfl (StepS.idx rfl rfl (OwnS.rd (Ent.at 1 rfl)) ksliceB_62_67_4_true (idx_spec hx11).1 (idxm_lt hx11)) ?_
    refine TS.nil ?_
    refine TO.at ?_
    refine TO.stO (i := a1.toNat) (off := 0) (us := [I (w64 (x8.1 + 1)), I 1, I a1, U 0]) 1 (w64 (x8.1 + 1), 1, a1, 0) rfl rfl rfl ksizeB_67_4_true rfl rfl rfl (idx_spec hx11).2 rfl (by simp [Value.oneCell']) rfl ?_
    refine TO.code ?_
    refine TC.k ?_
    refine TC.region ?_
    refine TO.s rfl rfl rfl (StepS.move rfl) ?_
    refine TO.s rfl rfl rfl (StepS.move rfl) ?_
    refine TO.s rfl rfl rfl (StepS.move rfl) ?_
    refine TO.ghost (fun _ s => Sat.front 2 rfl s) ?_
    refine TO.ghost (fun _ s => Sat.front 2 rfl s) ?_
    refine TO.ghost (fun _ s => Sat.front 2 rfl s) ?_
    obtain ⟨r12, hc13, hm⟩ := bind_some hm
    refine TO.callO kcallB_34_true rfl rfl rfl (fun _ st => C34 (a0 := (a0.1.set a1.toNat (w64 (x8.1 + 1), 1, a1, 0), a0.2))  hc13 st) ?_
    rintro _ _ ⟨v15, rfl, rfl⟩
    refine TO.code ?_
    refine TC.k ?_
    refine TC.region ?_
    refine TO.s rfl rfl rfl (StepS.assign rfl) ?_
    refine TO.code ?_
    cases hm
    refine TC.ret fun a w e s => ?_
    refine FRet.mk1 (P := Try.prog) (fn := Try.f28) (t := 4) e rfl rfl ?_
    refine ⟨_, _, rfl, ⟨(v15), rfl, rfl⟩, ?_⟩
    refine s.mono fun _ s => ?_
    replace s := Sat.front 2 rfl s
    replace s := Sat.front 2 rfl s
    replace s := Sat.front 2 rfl s
    exact s

set_option maxRecDepth 100000 in
theorem C36 {B : World} {L : List HP} {a0 : List (Int × Int × Int × BitVec 32)} {a1 : Int} {a2 : Int} {b0_ : Nat} {u0_1 : Value} {h0_1 : Value} {s0 : List (Int × Int × Int × BitVec 32)} (hm : F36 a0 a1 a2 = some s0) {w : World} (st : St B (Bx b0_ 64 [h0_1, u0_1] :: OwnS 67 4 h0_1 (a0.map cTiiiiu32) :: L) w) : Calls Try.prog 36 #[.pointer (some ⟨b0_, 0, none⟩), I a1, I a2] w (fun e w' => ∃ v M, e = .returned v ∧ (v = .tuple #[] ∧ M = (Bx b0_ 64 [h0_1, u0_1] :: OwnS 67 4 h0_1 (s0.map cTiiiiu32) :: L)) ∧ St B M w') := by
  refine calls_of (N := 24) (L := (Bx b0_ 64 [h0_1, u0_1] :: OwnS 67 4 h0_1 (a0.map cTiiiiu32) :: L)) (args := [.pointer (some ⟨b0_, 0, none⟩), I a1, I a2]) Try.func36 rfl rfl rfl ?_ st
  dsimp only [F36] at hm
  refine TC.k ?_
  refine TC.region ?_
  refine TO.s rfl rfl rfl (StepS.move rfl) ?_
  refine TO.s rfl rfl rfl (StepS.move rfl) ?_
  refine TO.s rfl rfl rfl (StepS.nilc rfl) ?_
  refine TO.s rfl rfl rfl (StepS.fld rfl kfieldB_64_0_0_true) ?_
  refine TO.s rfl rfl rfl (StepS.ldB rfl (Ent.at 0 rfl) kscalB_62_true rfl) ?_
  refine TO.s rfl rfl rfl (StepS.move rfl) ?_
  obtain ⟨x3, hx4, hm⟩ := bind_some hm
  refine TO.s rfl rfl rfl (StepS.idx rfl rfl (OwnS.rd (Ent.at 1 rfl)) ksliceB_62_67_4_true (idx_spec hx4).1 (idxm_lt hx4)) ?_
  refine TO.s rfl rfl rfl (StepS.ptrf rfl kfieldB_67_0_0_true) ?_
  refine TO.s rfl rfl rfl (StepS.ld1 rfl (OwnS.rd (Ent.at 1 rfl)) kscalB_3_true rfl (idxm hx4) rfl) ?_
  refine TO.s rfl rfl rfl (StepS.cmp rfl rfl rfl) ?_
  refine TO.code ?_
  refine TC.cond rfl (fun hc5 => ?_) (fun hc5 => ?_)
  · replace hm := cond_t hc5 hm
    refine TC.region ?_
    refine TO.s rfl rfl rfl (StepS.move rfl) ?_
    refine TO.s rfl rfl rfl (StepS.nilc rfl) ?_
    refine TO.s rfl rfl rfl (StepS.fld rfl kfieldB_64_0_0_true) ?_
    refine TO.s rfl rfl rfl (StepS.ldB rfl (Ent.at 0 rfl) kscalB_62_true rfl) ?_
    refine TO.s rfl rfl rfl (StepS.move rfl) ?_
    refine TO.s rfl rfl rfl (StepS.move rfl) ?_
    refine TO.s rfl rfl rfl (StepS.build (cs := [I a2, I 0, I (-1), U 0]) rfl (by kernel_rfl)) ?_
    obtain ⟨x6, hx7, hm⟩ := bind_some hm
    refine TO.s rfl rfl rfl (StepS.idx rfl rfl (OwnS.rd (Ent.at 1 rfl)) ksliceB_62_67_4_true (idx_spec hx7).1 (idxm_lt hx7)) ?_
    refine TO.stO (i := a1.toNat) (off := 0) (us := [I a2, I 0, I (-1), U 0]) 1 (a2, 0, (-1), 0) rfl rfl rfl ksizeB_67_4_true rfl rfl rfl (idx_spec hx7).2 rfl (by simp [Value.oneCell']) rfl ?_
    cases hm
    refine TO.nil fun a w e s => ?_
    refine FRet.mk0 (P := Try.prog) (fn := Try.f36) e rfl ?_
    refine ⟨_, _, rfl, ⟨rfl, rfl⟩, ?_⟩
    refine s.mono fun _ s => ?_
    replace s := Sat.front 1 rfl s
    replace s := Sat.front 1 rfl s
    exact s
  · replace hm := cond_f hc5 hm
    cases hm
    refine TC.skip fun a w e s => ?_
    refine FRet.mk0 (P := Try.prog) (fn := Try.f36) e rfl ?_
    refine ⟨_, _, rfl, ⟨rfl, rfl⟩, ?_⟩
    refine s.mono fun _ s => ?_
    replace s := Sat.front 1 rfl s
    replace s := Sat.front 1 rfl s
    exact s

set_option maxRecDepth 100000 in
theorem C30 {B : World} {L : List HP} {a0 : (List (Int × Int × Int × BitVec 32)) × List (Int × Int)} {a1 : Int} {a2 : Int} {a3 : Bool} {b0_ : Nat} {h0_1 : Value} {h0_2 : Value} {r0 : Int} {s0 : (List (Int × Int × Int × BitVec 32)) × List (Int × Int)} (hm : F30 a0 a1 a2 a3 = some (r0, s0)) {w : World} (st : St B (Bx b0_ 64 [h0_1, h0_2] :: OwnS 67 4 h0_1 (a0.1.map cTiiiiu32) :: OwnS 79 2 h0_2 (a0.2.map cTii) :: L) w) : Calls Try.prog 30 #[.pointer (some ⟨b0_, 0, none⟩), I a1, I a2, .bool a3] w (fun e w' => ∃ v M, e = .returned v ∧ (∃ (qv1 : Value), v = I r0 ∧ M = (Bx b0_ 64 [h0_1, qv1] :: OwnS 67 4 h0_1 (s0.1.map cTiiiiu32) :: OwnS 79 2 qv1 (s0.2.map cTii) :: L)) ∧ St B M w') := by
  refine calls_of (N := 83) (L := (Bx b0_ 64 [h0_1, h0_2] :: OwnS 67 4 h0_1 (a0.1.map cTiiiiu32) :: OwnS 79 2 h0_2 (a0.2.map cTii) :: L)) (args := [.pointer (some ⟨b0_, 0, none⟩), I a1, I a2, .bool a3]) Try.func30 rfl rfl rfl ?_ st
  dsimp only [F30] at hm
  refine TC.k ?_
  refine TC.region ?_
  refine TO.s rfl rfl rfl (StepS.assign rfl) ?_
  refine TO.code ?_
  refine TC.k ?_
  refine TC.k ?_
  refine TC.region ?_
  refine TO.s rfl rfl rfl (StepS.move rfl) ?_
  refine TO.s rfl rfl rfl (StepS.nilc rfl) ?_
  refine TO.s rfl rfl rfl (StepS.fld rfl kfieldB_64_0_0_true) ?_
  refine TO.s rfl rfl rfl (StepS.ldB rfl (Ent.at 0 rfl) kscalB_62_true rfl) ?_
  refine TO.s rfl rfl rfl (StepS.move rfl) ?_
  obtain ⟨x5, hx6, hm⟩ := bind_some hm
  refine TO.s rfl rfl rfl (StepS.idx rfl rfl (OwnS.rd (Ent.at 1 rfl)) ksliceB_62_67_4_true (idx_spec hx6).1 (idxm_lt hx6)) ?_
  refine TO.s rfl rfl rfl (StepS.ptrf rfl kfieldB_67_1_1_true) ?_
  refine TO.s rfl rfl rfl (StepS.ld1 rfl (OwnS.rd (Ent.at 1 rfl)) kscalB_3_true rfl (idxm hx6) rfl) ?_
  refine TO.s rfl rfl rfl (StepS.cmp rfl rfl rfl) ?_
  refine TO.code ?_
  refine TC.cond rfl (fun hc7 => ?_) (fun hc7 => ?_)
  · replace hm := cond_t hc7 hm
    refine TC.k ?_
    refine TC.region ?_
    refine TO.s rfl rfl rfl (StepS.assign rfl) ?_
    refine TO.code ?_
    cases hm
    refine TC.ret fun a w e s => ?_
    refine FRet.mk1 (P := Try.prog) (fn := Try.f30) (t := 8) e rfl rfl ?_
    refine ⟨_, _, rfl, ⟨(h0_2), rfl, rfl⟩, ?_⟩
    refine s.mono fun _ s => ?_
    replace s := Sat.front 2 rfl s
    replace s := Sat.front 2 rfl s
    replace s := Sat.front 2 rfl s
    exact s
  · replace hm := cond_f hc7 hm
    refine TC.skipk ?_
    refine TC.k ?_
    refine TC.region ?_
    refine TO.s rfl rfl rfl (StepS.move rfl) ?_
    refine TO.s rfl rfl rfl (StepS.move rfl) ?_
    refine TO.s rfl rfl rfl (StepS.move rfl) ?_
    refine TO.s rfl rfl rfl (StepS.nilc rfl) ?_
    refine TO.s rfl rfl rfl (StepS.fld rfl kfieldB_64_0_0_true) ?_
    refine TO.s rfl rfl rfl (StepS.ldB rfl (Ent.at 0 rfl) kscalB_62_true rfl) ?_
    refine TO.s rfl rfl rfl (StepS.move rfl) ?_
    obtain ⟨x8, hx9, hm⟩ := bind_some hm
    refine TO.s rfl rfl rfl (StepS.idx rfl rfl (OwnS.rd (Ent.at 1 rfl)) ksliceB_62_67_4_true (idx_spec hx9).1 (idxm_lt hx9)) ?_
    refine TO.s rfl rfl rfl (StepS.ptrf rfl kfieldB_67_0_0_true) ?_
    refine TO.s rfl rfl rfl (StepS.ld1 rfl (OwnS.rd (Ent.at 1 rfl)) kscalB_3_true rfl (idxm hx9) rfl) ?_
    refine TO.ghost (fun _ s => Sat.front 1 rfl s) ?_
    refine TO.ghost (fun _ s => Sat.front 1 rfl s) ?_
    obtain ⟨r10, hc11, hm⟩ := bind_some hm
    refine TO.callO kcallB_36_true rfl rfl rfl (fun _ st => C36 (a0 := a0.1)  hc11 st) ?_
    rintro _ _ ⟨rfl, rfl⟩
    refine TO.code ?_
    refine TC.k ?_
    refine TC.region ?_
    refine TO.s rfl rfl rfl (StepS.move rfl) ?_
    refine TO.s rfl rfl rfl (StepS.nilc rfl) ?_
    refine TO.s rfl rfl rfl (StepS.fld rfl kfieldB_64_0_0_true) ?_
    refine TO.s rfl rfl rfl (StepS.ldB rfl (Ent.at 0 rfl) kscalB_62_true rfl) ?_
    refine TO.s rfl rfl rfl (StepS.move rfl) ?_
    obtain ⟨x13, hx14, hm⟩ := bind_some hm
    refine TO.s rfl rfl rfl (StepS.idx rfl rfl (OwnS.rd (Ent.at 1 rfl)) ksliceB_62_67_4_true (idx_spec hx14).1 (idxm_lt hx14)) ?_
    refine TO.s rfl rfl rfl (StepS.assign rfl) ?_
    refine TO.code ?_
    refine TC.k ?_
    refine TC.block ?_
    refine TC.k ?_
    refine TC.region_still kfollows_mixedOrders_true (by kernel_rfl) ?_
    refine TS.s rfl rfl rfl (StepS.move rfl) ?_
    refine TS.s rfl rfl rfl (StepS.nilc rfl) ?_
    refine TS.s rfl rfl rfl (StepS.ptrf rfl kfieldB_67_0_0_true) ?_
    refine TS.s rfl rfl rfl (StepS.ld1 rfl (OwnS.rd (Ent.at 1 rfl)) kscalB_3_true rfl (idxm hx14) rfl) ?_
    refine TS.s rfl rfl rfl (StepS.move rfl) ?_
    refine TS.s rfl rfl rfl (StepS.nilc rfl) ?_
    refine TS.s rfl rfl rfl (StepS.fld rfl kfieldB_64_0_0_true) ?_
    refine TS.s rfl rfl rfl (StepS.ldB rfl (Ent.at 0 rfl) kscalB_62_true rfl) ?_
    refine TS.s rfl rfl rfl (StepS.move rfl) ?_
    obtain ⟨x15, hx16, hm⟩ := bind_some hm
    refine TS.s rfl rfl rfl (StepS.idx rfl rfl (OwnS.rd (Ent.at 1 rfl)) ksliceB_62_67_4_true (idx_spec hx16).1 (idxm_lt hx16)) ?_
    refine TS.s rfl rfl rfl (StepS.ptrf rfl kfieldB_67_0_0_true) ?_
    refine TS.s rfl rfl rfl (StepS.ld1 rfl (OwnS.rd (Ent.at 1 rfl)) kscalB_3_true rfl (idxm hx16) rfl) ?_
    refine TS.s rfl rfl rfl (StepS.cmp rfl rfl rfl) ?_
    refine TS.s rfl rfl rfl (StepS.assign rfl) ?_
    refine TS.code ?_
    refine TC.cond rfl (fun hc17 => ?_) (fun hc17 => ?_)
    · replace hm := cond_t hc17 hm
      refine TC.k ?_
      refine TC.region ?_
      refine TO.s rfl rfl rfl (StepS.move rfl) ?_
      refine TO.s rfl rfl rfl (StepS.move rfl) ?_
      refine TO.s rfl rfl rfl (StepS.move rfl) ?_
      refine TO.s rfl rfl rfl (StepS.nilc rfl) ?_
      refine TO.s rfl rfl rfl (StepS.ptrf rfl kfieldB_67_0_0_true) ?_
      refine TO.s rfl rfl rfl (StepS.ld1 rfl (OwnS.rd (Ent.at 1 rfl)) kscalB_3_true rfl (idxm hx14) rfl) ?_
      refine TO.ghost (fun _ s => Sat.front 1 rfl s) ?_
      refine TO.ghost (fun _ s => Sat.front 1 rfl s) ?_
      obtain ⟨r18, hc19, hm⟩ := bind_some hm
      refine TO.callO kcallB_36_true rfl rfl rfl (fun _ st => C36 (a0 := r10)  hc19 st) ?_
      rintro _ _ ⟨rfl, rfl⟩
      refine TO.code ?_
      refine TC.k ?_
      refine TC.region ?_
      refine TO.s rfl rfl rfl (StepS.assign rfl) ?_
      refine TO.code ?_
      cases hm
      refine TC.ret fun a w e s => ?_
      refine FRet.mk1 (P := Try.prog) (fn := Try.f30) (t := 8) e rfl rfl ?_
      refine ⟨_, _, rfl, ⟨(h0_2), rfl, rfl⟩, ?_⟩
      refine s.mono fun _ s => ?_
      replace s := Sat.front 2 rfl s
      replace s := Sat.front 2 rfl s
      replace s := Sat.front 2 rfl s
      exact s
    · replace hm := cond_f hc17 hm
      refine TC.k ?_
      refine TC.region ?_
      refine TO.s rfl rfl rfl (StepS.move rfl) ?_
      refine TO.s rfl rfl rfl (StepS.nilc rfl) ?_
      refine TO.s rfl rfl rfl (StepS.ptrf rfl kfieldB_67_2_2_true) ?_
      refine TO.s rfl rfl rfl (StepS.ld1 rfl (OwnS.rd (Ent.at 1 rfl)) kscalB_3_true rfl (idxm hx14) rfl) ?_
      refine TO.s rfl rfl rfl (StepS.cmp rfl rfl rfl) ?_
      refine TO.s rfl rfl rfl (StepS.move rfl) ?_
      refine TO.mid1 7 70 (.bool ((decide (x13.2.2.1 ≥ 0)) && (x13.2.2.1 != a2))) ?_ ?_
      · refine bcase ((decide (x13.2.2.1 ≥ 0))) (fun hb21 => ?_) (fun hb21 => ?_)
        · refine TO.sw rfl rfl rfl hb21 rfl rfl (StepS.move rfl) ?_
          refine TO.sw rfl rfl rfl hb21 rfl rfl (StepS.nilc rfl) ?_
          refine TO.sw rfl rfl rfl hb21 rfl rfl (StepS.ptrf rfl kfieldB_67_2_2_true) ?_
          refine TO.sw rfl rfl rfl hb21 rfl rfl (StepS.ld1 rfl (OwnS.rd (Ent.at 1 rfl)) kscalB_3_true rfl (idxm hx14) rfl) ?_
          refine TO.sw rfl rfl rfl hb21 rfl rfl (StepS.move rfl) ?_
          refine TO.sw rfl rfl rfl hb21 rfl rfl (StepS.cmp rfl rfl rfl) ?_
          refine TO.s rfl rfl rfl (StepS.pickT rfl hb21 rfl) ?_
          exact TO.up1 7 0 rfl rfl (by rw [hb21]; rfl) rfl
        · refine TO.skip rfl rfl rfl (skipF hb21) rfl rfl ?_
          refine TO.skip rfl rfl rfl (skipF hb21) rfl rfl ?_
          refine TO.skip rfl rfl rfl (skipF hb21) rfl rfl ?_
          refine TO.skip rfl rfl rfl (skipF hb21) rfl rfl ?_
          refine TO.skip rfl rfl rfl (skipF hb21) rfl rfl ?_
          refine TO.skip rfl rfl rfl (skipF hb21) rfl rfl ?_
          refine TO.s rfl rfl rfl (StepS.pickF rfl hb21 rfl) ?_
          exact TO.up1 7 0 rfl rfl (by rw [hb21]; rfl) rfl
      refine TO.s rfl rfl rfl (StepS.move rfl) ?_
      refine TO.mid1 3 74 (.bool (((decide (x13.2.2.1 ≥ 0)) && (x13.2.2.1 != a2)) || (!a3))) ?_ ?_
      · refine bcase (((decide (x13.2.2.1 ≥ 0)) && (x13.2.2.1 != a2))) (fun hb22 => ?_) (fun hb22 => ?_)
        · refine TO.skip rfl rfl rfl (skipT hb22) rfl rfl ?_
          refine TO.skip rfl rfl rfl (skipT hb22) rfl rfl ?_
          refine TO.s rfl rfl rfl (StepS.pickT rfl hb22 rfl) ?_
          exact TO.up1 3 0 rfl rfl (by rw [hb22]; rfl) rfl
        · refine TO.sw rfl rfl rfl hb22 rfl rfl (StepS.move rfl) ?_
          refine TO.sw rfl rfl rfl hb22 rfl rfl (StepS.not rfl) ?_
          refine TO.s rfl rfl rfl (StepS.pickF rfl hb22 rfl) ?_
          exact TO.up1 3 0 rfl rfl (by rw [hb22]; rfl) rfl
      refine TO.s rfl rfl rfl (StepS.assign rfl) ?_
      refine TO.code ?_
      refine TC.cond rfl (fun hc23 => ?_) (fun hc23 => ?_)
      · replace hm := cond_t hc23 hm
        refine TC.k ?_
        refine TC.region ?_
        refine TO.s rfl rfl rfl (StepS.assign rfl) ?_
        refine TO.code ?_
        cases hm
        refine TC.ret fun a w e s => ?_
        refine FRet.mk1 (P := Try.prog) (fn := Try.f30) (t := 8) e rfl rfl ?_
        refine ⟨_, _, rfl, ⟨(h0_2), rfl, rfl⟩, ?_⟩
        refine s.mono fun _ s => ?_
        replace s := Sat.front 2 rfl s
        replace s := Sat.front 2 rfl s
        replace s := Sat.front 2 rfl s
        exact s
      · replace hm := cond_f hc23 hm
        refine TC.skipk ?_
        refine TC.k ?_
        refine TC.region ?_
        refine TO.s rfl rfl rfl (StepS.move rfl) ?_
        refine TO.s rfl rfl rfl (StepS.move rfl) ?_
        refine TO.s rfl rfl rfl (StepS.nilc rfl) ?_
        refine TO.s rfl rfl rfl (StepS.ptrf rfl kfieldB_67_2_2_true) ?_
        refine TO.stO (i := a1.toNat) (off := 2) (us := [I a2]) 1 (x13.1, x13.2.1, a2, x13.2.2.2) rfl rfl rfl ksizeB_3_1_true rfl rfl rfl (idx_spec hx14).2 rfl (by simp [Value.oneCell']) rfl ?_
        refine TO.code ?_
        refine TC.k ?_
        refine TC.region ?_
        refine TO.s rfl rfl rfl (StepS.move rfl) ?_
        refine TO.s rfl rfl rfl (StepS.move rfl) ?_
        refine TO.s rfl rfl rfl (StepS.move rfl) ?_
        refine TO.ghost (fun _ s => Sat.front 2 rfl s) ?_
        refine TO.ghost (fun _ s => Sat.front 2 rfl s) ?_
        refine TO.ghost (fun _ s => Sat.front 2 rfl s) ?_
        obtain ⟨r24, hc25, hm⟩ := bind_some hm
        refine TO.callO kcallB_34_true rfl rfl rfl (fun _ st => C34 (a0 := (r10.set a1.toNat (x13.1, x13.2.1, a2, x13.2.2.2), a0.2))  hc25 st) ?_
        rintro _ _ ⟨v27, rfl, rfl⟩
        refine TO.code ?_
        refine TC.k ?_
        refine TC.region ?_
        refine TO.s rfl rfl rfl (StepS.assign rfl) ?_
        refine TO.code ?_
        cases hm
        refine TC.ret fun a w e s => ?_
        refine FRet.mk1 (P := Try.prog) (fn := Try.f30) (t := 8) e rfl rfl ?_
        refine ⟨_, _, rfl, ⟨(v27), rfl, rfl⟩, ?_⟩
        refine s.mono fun _ s => ?_
        replace s := Sat.front 2 rfl s
        replace s := Sat.front 2 rfl s
        replace s := Sat.front 2 rfl s
        exact s

set_option maxRecDepth 100000 in
theorem C32 {B : World} {L : List HP} {a0 : List (Int × Int × Int × BitVec 32)} {a1 : Int} {a2 : Int} {b0_ : Nat} {u0_1 : Value} {h0_1 : Value} {r0 : Int} {s0 : List (Int × Int × Int × BitVec 32)} (hm : F32 a0 a1 a2 = some (r0, s0)) {w : World} (st : St B (Bx b0_ 64 [h0_1, u0_1] :: OwnS 67 4 h0_1 (a0.map cTiiiiu32) :: L) w) : Calls Try.prog 32 #[.pointer (some ⟨b0_, 0, none⟩), I a1, I a2] w (fun e w' => ∃ v M, e = .returned v ∧ (v = I r0 ∧ M = (Bx b0_ 64 [h0_1, u0_1] :: OwnS 67 4 h0_1 (s0.map cTiiiiu32) :: L)) ∧ St B M w') := by
  refine calls_of (N := 62) (L := (Bx b0_ 64 [h0_1, u0_1] :: OwnS 67 4 h0_1 (a0.map cTiiiiu32) :: L)) (args := [.pointer (some ⟨b0_, 0, none⟩), I a1, I a2]) Try.func32 rfl rfl rfl ?_ st
  dsimp only [F32] at hm
  refine TC.k ?_
  refine TC.region ?_
  refine TO.s rfl rfl rfl (StepS.assign rfl) ?_
  refine TO.code ?_
  refine TC.k ?_
  refine TC.k ?_
  refine TC.region ?_
  refine TO.s rfl rfl rfl (StepS.move rfl) ?_
  refine TO.s rfl rfl rfl (StepS.nilc rfl) ?_
  refine TO.s rfl rfl rfl (StepS.fld rfl kfieldB_64_0_0_true) ?_
  refine TO.s rfl rfl rfl (StepS.ldB rfl (Ent.at 0 rfl) kscalB_62_true rfl) ?_
  refine TO.s rfl rfl rfl (StepS.move rfl) ?_
  obtain ⟨x3, hx4, hm⟩ := bind_some hm
  refine TO.s rfl rfl rfl (StepS.idx rfl rfl (OwnS.rd (Ent.at 1 rfl)) ksliceB_62_67_4_true (idx_spec hx4).1 (idxm_lt hx4)) ?_
  refine TO.s rfl rfl rfl (StepS.ptrf rfl kfieldB_67_1_1_true) ?_
  refine TO.s rfl rfl rfl (StepS.ld1 rfl (OwnS.rd (Ent.at 1 rfl)) kscalB_3_true rfl (idxm hx4) rfl) ?_
  refine TO.s rfl rfl rfl (StepS.cmp rfl rfl rfl) ?_
  refine TO.code ?_
  refine TC.cond rfl (fun hc5 => ?_) (fun hc5 => ?_)
  · replace hm := cond_t hc5 hm
    refine TC.k ?_
    refine TC.region ?_
    refine TO.s rfl rfl rfl (StepS.assign rfl) ?_
    refine TO.code ?_
    cases hm
    refine TC.ret fun a w e s => ?_
    refine FRet.mk1 (P := Try.prog) (fn := Try.f32) (t := 6) e rfl rfl ?_
    refine ⟨_, _, rfl, ⟨rfl, rfl⟩, ?_⟩
    refine s.mono fun _ s => ?_
    replace s := Sat.front 1 rfl s
    replace s := Sat.front 1 rfl s
    exact s
  · replace hm := cond_f hc5 hm
    refine TC.skipk ?_
    refine TC.k ?_
    refine TC.k ?_
    refine TC.region_still kfollows_mixedOrders_true (by kernel_rfl) ?_
    refine TS.s rfl rfl rfl (StepS.move rfl) ?_
    refine TS.s rfl rfl rfl (StepS.nilc rfl) ?_
    refine TS.s rfl rfl rfl (StepS.fld rfl kfieldB_64_0_0_true) ?_
    refine TS.s rfl rfl rfl (StepS.ldB rfl (Ent.at 0 rfl) kscalB_62_true rfl) ?_
    refine TS.s rfl rfl rfl (StepS.move rfl) ?_
    obtain ⟨x6, hx7, hm⟩ := bind_some hm
    refine TS.s rfl rfl rfl (StepS.idx rfl rfl (OwnS.rd (Ent.at 1 rfl)) ksliceB_62_67_4_true (idx_spec hx7).1 (idxm_lt hx7)) ?_
    refine TS.s rfl rfl rfl (StepS.ptrf rfl kfieldB_67_0_0_true) ?_
    refine TS.s rfl rfl rfl (StepS.ld1 rfl (OwnS.rd (Ent.at 1 rfl)) kscalB_3_true rfl (idxm hx7) rfl) ?_
    refine TS.s rfl rfl rfl (StepS.move rfl) ?_
    refine TS.s rfl rfl rfl (StepS.nilc rfl) ?_
    refine TS.s rfl rfl rfl (StepS.fld rfl kfieldB_64_0_0_true) ?_
    refine TS.s rfl rfl rfl (StepS.ldB rfl (Ent.at 0 rfl) kscalB_62_true rfl) ?_
    refine TS.s rfl rfl rfl (StepS.move rfl) ?_
    obtain ⟨x8, hx9, hm⟩ := bind_some hm
    refine TS.s rfl rfl rfl (StepS.idx rfl rfl (OwnS.rd (Ent.at 1 rfl)) ksliceB_62_67_4_true (idx_spec hx9).1 (idxm_lt hx9)) ?_
    refine TS.s rfl rfl rfl (StepS.ptrf rfl kfieldB_67_0_0_true) ?_
    refine TS.s rfl rfl rfl (StepS.ld1 rfl (OwnS.rd (Ent.at 1 rfl)) kscalB_3_true rfl (idxm hx9) rfl) ?_
    refine TS.s rfl rfl rfl (StepS.cmp rfl rfl rfl) ?_
    refine TS.code ?_
    refine TC.cond rfl (fun hc10 => ?_) (fun hc10 => ?_)
    · replace hm := cond_t hc10 hm
      refine TC.k ?_
      refine TC.region ?_
      refine TO.s rfl rfl rfl (StepS.move rfl) ?_
      refine TO.s rfl rfl rfl (StepS.move rfl) ?_
      refine TO.s rfl rfl rfl (StepS.move rfl) ?_
      refine TO.s rfl rfl rfl (StepS.nilc rfl) ?_
      refine TO.s rfl rfl rfl (StepS.fld rfl kfieldB_64_0_0_true) ?_
      refine TO.s rfl rfl rfl (StepS.ldB rfl (Ent.at 0 rfl) kscalB_62_true rfl) ?_
      refine TO.s rfl rfl rfl (StepS.move rfl) ?_
      obtain ⟨x11, hx12, hm⟩ := bind_some hm
      refine TO.s rfl rfl rfl (StepS.idx rfl rfl (OwnS.rd (Ent.at 1 rfl)) ksliceB_62_67_4_true (idx_spec hx12).1 (idxm_lt hx12)) ?_
      refine TO.s rfl rfl rfl (StepS.ptrf rfl kfieldB_67_0_0_true) ?_
      refine TO.s rfl rfl rfl (StepS.ld1 rfl (OwnS.rd (Ent.at 1 rfl)) kscalB_3_true rfl (idxm hx12) rfl) ?_
      refine TO.ghost (fun _ s => Sat.front 1 rfl s) ?_
      refine TO.ghost (fun _ s => Sat.front 1 rfl s) ?_
      obtain ⟨r13, hc14, hm⟩ := bind_some hm
      refine TO.callO kcallB_36_true rfl rfl rfl (fun _ st => C36 (a0 := a0)  hc14 st) ?_
      rintro _ _ ⟨rfl, rfl⟩
      refine TO.code ?_
      refine TC.k ?_
      refine TC.region ?_
      refine TO.s rfl rfl rfl (StepS.assign rfl) ?_
      refine TO.code ?_
      cases hm
      refine TC.ret fun a w e s => ?_
      refine FRet.mk1 (P := Try.prog) (fn := Try.f32) (t := 6) e rfl rfl ?_
      refine ⟨_, _, rfl, ⟨rfl, rfl⟩, ?_⟩
      refine s.mono fun _ s => ?_
      replace s := Sat.front 1 rfl s
      replace s := Sat.front 1 rfl s
      exact s
    · replace hm := cond_f hc10 hm
      refine TC.skipk ?_
      refine TC.k ?_
      refine TC.region ?_
      refine TO.s rfl rfl rfl (StepS.move rfl) ?_
      refine TO.s rfl rfl rfl (StepS.move rfl) ?_
      refine TO.s rfl rfl rfl (StepS.move rfl) ?_
      refine TO.s rfl rfl rfl (StepS.nilc rfl) ?_
      refine TO.s rfl rfl rfl (StepS.fld rfl kfieldB_64_0_0_true) ?_
      refine TO.s rfl rfl rfl (StepS.ldB rfl (Ent.at 0 rfl) kscalB_62_true rfl) ?_
      refine TO.s rfl rfl rfl (StepS.move rfl) ?_
      obtain ⟨x16, hx17, hm⟩ := bind_some hm
      refine TO.s rfl rfl rfl (StepS.idx rfl rfl (OwnS.rd (Ent.at 1 rfl)) ksliceB_62_67_4_true (idx_spec hx17).1 (idxm_lt hx17)) ?_
      refine TO.s rfl rfl rfl (StepS.ptrf rfl kfieldB_67_0_0_true) ?_
      refine TO.s rfl rfl rfl (StepS.ld1 rfl (OwnS.rd (Ent.at 1 rfl)) kscalB_3_true rfl (idxm hx17) rfl) ?_
      refine TO.ghost (fun _ s => Sat.front 1 rfl s) ?_
      refine TO.ghost (fun _ s => Sat.front 1 rfl s) ?_
      obtain ⟨r18, hc19, hm⟩ := bind_some hm
      refine TO.callO kcallB_36_true rfl rfl rfl (fun _ st => C36 (a0 := a0)  hc19 st) ?_
      rintro _ _ ⟨rfl, rfl⟩
      refine TO.code ?_
      refine TC.k ?_
      refine TC.region ?_
      refine TO.s rfl rfl rfl (StepS.move rfl) ?_
      refine TO.s rfl rfl rfl (StepS.nilc rfl) ?_
      refine TO.s rfl rfl rfl (StepS.fld rfl kfieldB_64_0_0_true) ?_
      refine TO.s rfl rfl rfl (StepS.ldB rfl (Ent.at 0 rfl) kscalB_62_true rfl) ?_
      refine TO.s rfl rfl rfl (StepS.move rfl) ?_
      obtain ⟨x21, hx22, hm⟩ := bind_some hm
      refine TO.s rfl rfl rfl (StepS.idx rfl rfl (OwnS.rd (Ent.at 1 rfl)) ksliceB_62_67_4_true (idx_spec hx22).1 (idxm_lt hx22)) ?_
      refine TO.s rfl rfl rfl (StepS.ptrf rfl kfieldB_67_1_1_true) ?_
      refine TO.stO (i := a2.toNat) (off := 1) (us := [I 0]) 1 (x21.1, 0, x21.2.2.1, x21.2.2.2) rfl rfl rfl ksizeB_3_1_true rfl rfl rfl (idx_spec hx22).2 rfl (by simp [Value.oneCell']) rfl ?_
      refine TO.code ?_
      refine TC.k ?_
      refine TC.region ?_
      refine TO.s rfl rfl rfl (StepS.assign rfl) ?_
      refine TO.code ?_
      cases hm
      refine TC.ret fun a w e s => ?_
      refine FRet.mk1 (P := Try.prog) (fn := Try.f32) (t := 6) e rfl rfl ?_
      refine ⟨_, _, rfl, ⟨rfl, rfl⟩, ?_⟩
      refine s.mono fun _ s => ?_
      replace s := Sat.front 1 rfl s
      replace s := Sat.front 1 rfl s
      exact s

set_option maxRecDepth 100000 in
theorem C23 {B : World} {L : List HP} {a0 : List (Int × Int × Int × BitVec 32)} {a1 : Int} {b0_ : Nat} {u0_1 : Value} {h0_1 : Value} {s0 : List (Int × Int × Int × BitVec 32)} (hm : F23 a0 a1 = some s0) {w : World} (st : St B (Bx b0_ 64 [h0_1, u0_1] :: OwnS 67 4 h0_1 (a0.map cTiiiiu32) :: L) w) : Calls Try.prog 23 #[.pointer (some ⟨b0_, 0, none⟩), I a1] w (fun e w' => ∃ v M, e = .returned v ∧ (v = .tuple #[] ∧ M = (Bx b0_ 64 [h0_1, u0_1] :: OwnS 67 4 h0_1 (s0.map cTiiiiu32) :: L)) ∧ St B M w') := by
  refine calls_of (N := 18) (L := (Bx b0_ 64 [h0_1, u0_1] :: OwnS 67 4 h0_1 (a0.map cTiiiiu32) :: L)) (args := [.pointer (some ⟨b0_, 0, none⟩), I a1]) Try.func23 rfl rfl rfl ?_ st
  dsimp only [F23] at hm
  refine TC.region_any (Bx b0_ 64 [h0_1, u0_1] :: OwnS 67 4 h0_1 (a0.map cTiiiiu32) :: L) 12 16 kfollows_mixedOrders_true rfl ?_
  refine TA.takeW 0 rfl rfl rfl rfl (StepS.move rfl) (by kernel_rfl) (by kernel_rfl) (by kernel_rfl) rfl (.inr (fun _ s => s)) ?_
  refine TA.takeW 1 rfl rfl rfl rfl (StepS.nilc rfl) (by kernel_rfl) (by kernel_rfl) (by kernel_rfl) rfl (.inr (fun _ s => s)) ?_
  refine TA.takeW 2 rfl rfl rfl rfl (StepS.fld rfl kfieldB_64_0_0_true) (by kernel_rfl) (by kernel_rfl) (by kernel_rfl) rfl (.inr (fun _ s => s)) ?_
  refine TA.take 3 rfl rfl rfl rfl (StepS.ldB rfl (Ent.at 0 rfl) kscalB_62_true rfl) (by kernel_rfl) (by kernel_rfl) (by kernel_rfl) (by kernel_rfl) (by kernel_rfl) (fun _ s => s) ?_
  refine TA.takeW 4 rfl rfl rfl rfl (StepS.move rfl) (by kernel_rfl) (by kernel_rfl) (by kernel_rfl) rfl (.inr (fun _ s => s)) ?_
  refine TA.takeW 5 rfl rfl rfl rfl (StepS.move rfl) (by kernel_rfl) (by kernel_rfl) (by kernel_rfl) rfl (.inr (fun _ s => s)) ?_
  refine TA.takeW 6 rfl rfl rfl rfl (StepS.nilc rfl) (by kernel_rfl) (by kernel_rfl) (by kernel_rfl) rfl (.inr (fun _ s => s)) ?_
  refine TA.takeW 7 rfl rfl rfl rfl (StepS.fld rfl kfieldB_64_0_0_true) (by kernel_rfl) (by kernel_rfl) (by kernel_rfl) rfl (.inr (fun _ s => s)) ?_
  refine TA.take 8 rfl rfl rfl rfl (StepS.ldB rfl (Ent.at 0 rfl) kscalB_62_true rfl) (by kernel_rfl) (by kernel_rfl) (by kernel_rfl) (by kernel_rfl) (by kernel_rfl) (fun _ s => s) ?_
  refine TA.takeW 9 rfl rfl rfl rfl (StepS.move rfl) (by kernel_rfl) (by kernel_rfl) (by kernel_rfl) rfl (.inr (fun _ s => s)) ?_
  refine TA.all1 (i := 10) (by kernel_rfl) ?_
  refine TB.of rfl ?_
  obtain ⟨xq3_10_1, hxq3_10_2, hm⟩ := bind_some hm
  refine TO.s rfl rfl rfl (StepS.idx rfl rfl (OwnS.rd (Ent.at 1 rfl)) ksliceB_62_67_4_true (idx_spec hxq3_10_2).1 (idxm_lt hxq3_10_2)) ?_
  refine TA.back (.inr (fun _ s => s)) ?_
  refine TA.asL (L' := (Bx b0_ 64 [h0_1, u0_1] :: OwnS 67 4 h0_1 (a0.map cTiiiiu32) :: L)) (listed' := #[true, true, true, true, true, true, true, true, true, true, true, false, false, false, false, false]) (by kernel_rfl) (by kernel_rfl) ?_
  refine TA.takeW 11 rfl rfl rfl rfl (StepS.ptrf rfl kfieldB_67_1_1_true) (by kernel_rfl) (by kernel_rfl) (by kernel_rfl) rfl (.inr (fun _ s => s)) ?_
  refine TA.all1 (i := 12) (by kernel_rfl) ?_
  refine TB.of rfl ?_
  refine TO.stO (i := a1.toNat) (off := 1) (us := [I 0]) 1 (xq3_10_1.1, 0, xq3_10_1.2.2.1, xq3_10_1.2.2.2) rfl rfl rfl ksizeB_3_1_true rfl rfl rfl (idx_spec hxq3_10_2).2 rfl (by simp [Value.oneCell']) rfl ?_
  refine TA.back (.inl (by kernel_rfl)) ?_
  refine TA.asL (L' := (Bx b0_ 64 [h0_1, u0_1] :: OwnS 67 4 h0_1 ((a0.set a1.toNat (xq3_10_1.1, 0, xq3_10_1.2.2.1, xq3_10_1.2.2.2)).map cTiiiiu32) :: L)) (listed' := #[true, true, true, true, true, true, true, true, true, true, true, true, true, false, false, false]) (by kernel_rfl) (by kernel_rfl) ?_
  refine TA.all1 (i := 13) (by kernel_rfl) ?_
  refine TB.of rfl ?_
  obtain ⟨xq3_13_1, hxq3_13_2, hm⟩ := bind_some hm
  refine TO.s rfl rfl rfl (StepS.idx rfl rfl (OwnS.rd (Ent.at 1 rfl)) ksliceB_62_67_4_true (idx_spec hxq3_13_2).1 (idxm_lt hxq3_13_2)) ?_
  refine TA.back (.inl (by kernel_rfl)) ?_
  refine TA.asL (L' := (Bx b0_ 64 [h0_1, u0_1] :: OwnS 67 4 h0_1 ((a0.set a1.toNat (xq3_10_1.1, 0, xq3_10_1.2.2.1, xq3_10_1.2.2.2)).map cTiiiiu32) :: L)) (listed' := #[true, true, true, true, true, true, true, true, true, true, true, true, true, true, false, false]) (by kernel_rfl) (by kernel_rfl) ?_
  refine TA.takeW 14 rfl rfl rfl rfl (StepS.ptrf rfl kfieldB_67_3_3_true) (by kernel_rfl) (by kernel_rfl) (by kernel_rfl) rfl (.inl (by kernel_rfl)) ?_
  refine TA.all1 (i := 15) (by kernel_rfl) ?_
  refine TB.of rfl ?_
  refine TO.stO (i := a1.toNat) (off := 3) (us := [U (0#32)]) 1 (xq3_13_1.1, xq3_13_1.2.1, xq3_13_1.2.2.1, 0#32) rfl rfl rfl ksizeB_65_1_true rfl rfl rfl (idx_spec hxq3_13_2).2 rfl (by simp [Value.oneCell']) rfl ?_
  refine TA.back (.inl (by kernel_rfl)) ?_
  refine TA.asL (L' := (Bx b0_ 64 [h0_1, u0_1] :: OwnS 67 4 h0_1 (((a0.set a1.toNat (xq3_10_1.1, 0, xq3_10_1.2.2.1, xq3_10_1.2.2.2)).set a1.toNat (xq3_13_1.1, xq3_13_1.2.1, xq3_13_1.2.2.1, 0#32)).map cTiiiiu32) :: L)) (listed' := #[true, true, true, true, true, true, true, true, true, true, true, true, true, true, true, true]) (by kernel_rfl) (by kernel_rfl) ?_
  cases hm
  refine TA.nil (by kernel_rfl) fun a w e s => ?_
  refine FRet.mk0 (P := Try.prog) (fn := Try.f23) e rfl ?_
  refine ⟨_, _, rfl, ⟨rfl, rfl⟩, ?_⟩
  refine s.mono fun _ s => ?_
  replace s := Sat.front 1 rfl s
  replace s := Sat.front 1 rfl s
  exact s

set_option maxRecDepth 100000 in
theorem C14 {B : World} {L : List HP} {a0 : List (Int × Int)} {h0 : Value} {r0 : List (Int × Int)} (e0 : Ent L (Rd 2 h0 (a0.map cTii))) (hm : F14 a0 = some r0) {w : World} (st : St B L w) : Calls Try.prog 14 #[h0] w (fun e w' => ∃ v M, e = .returned v ∧ (∃ (qr0 : Value), v = qr0 ∧ M = (OwnS 52 2 qr0 (r0.map cTii) :: L)) ∧ St B M w') := by
  refine calls_of (N := 8) (L := L) (args := [h0]) Try.func14 rfl rfl rfl ?_ st
  dsimp only [F14] at hm
  refine TC.k ?_
  refine TC.region ?_
  refine TO.s rfl rfl rfl (StepS.assign rfl) ?_
  refine TO.code ?_
  refine TC.k ?_
  refine TC.k ?_
  refine TC.region ?_
  refine TO.s rfl rfl rfl (StepS.move rfl) ?_
  refine TO.nilck rfl e0 ksliceB_36_52_2_true rfl fun b hb => ?_
  refine TO.code ?_
  refine TC.cond rfl (fun hc => ?_) (fun hc => ?_)
  · have hn : a0 = [] := by simpa using hb hc
    subst hn
    have hr : r0 = [] := by simpa using (appl_spec hm).2.2
    subst hr
    refine TC.k ?_
    refine TC.region ?_
    refine TO.s rfl rfl rfl (StepS.assign rfl) ?_
    refine TO.code ?_
    refine TC.ret fun a w e s => ?_
    refine FRet.mk1 (P := Try.prog) (fn := Try.f14) (t := 2) e rfl rfl ?_
    exact ⟨_, _, rfl, ⟨_, rfl, rfl⟩, s.mono fun _ s => Sat.nilS s⟩
  · refine TC.skipk ?_
    refine TC.k ?_
    refine TC.region ?_
    refine TO.lit0 (f := cTii) ksliceB_36_52_2_true rfl fun v1 => ?_
    refine TO.s rfl rfl rfl (StepS.move rfl) ?_
    refine TO.app (k := 0) (f := cTii) kelemB_36_52_2_16_true (by decide) rfl rfl rfl e0.tl hm (fun x c hc => by simp [Value.oneCell'] at hc ⊢; first | (obtain rfl := hc; rfl) | (rcases hc with rfl | rfl <;> rfl)) rfl rfl fun v2 => ?_
    refine TO.s rfl rfl rfl (StepS.assign rfl) ?_
    refine TO.code ?_
    refine TC.ret fun a w e s => ?_
    refine FRet.mk1 (P := Try.prog) (fn := Try.f14) (t := 2) e rfl rfl ?_
    exact ⟨_, _, rfl, ⟨_, rfl, rfl⟩, s⟩

set_option maxRecDepth 100000 in
theorem C5 {B : World} {L : List HP} {a0 : Int} {a1 : Int} {r0 : Int} (hm : F5 a0 a1 = some r0) {w : World} (st : St B L w) : Calls Try.prog 5 #[I a0, I a1] w (fun e w' => (e = .returned (I r0) ∧ St B (L) w')) := by
  refine calls_of (N := 15) (L := L) (args := [I a0, I a1]) Try.func5 rfl rfl rfl ?_ st
  dsimp only [F5] at hm
  refine TC.k ?_
  refine TC.region ?_
  refine TO.s rfl rfl rfl (StepS.assign rfl) ?_
  refine TO.code ?_
  refine TC.k ?_
  refine TC.k ?_
  refine TC.region ?_
  refine TO.s rfl rfl rfl (StepS.move rfl) ?_
  refine TO.s rfl rfl rfl (StepS.cmp rfl rfl rfl) ?_
  refine TO.s rfl rfl rfl (StepS.move rfl) ?_
  refine TO.mid1 3 10 (.bool ((decide (a0 < 1)) || (decide (a0 > 6)))) ?_ ?_
  · refine bcase ((decide (a0 < 1))) (fun hb1 => ?_) (fun hb1 => ?_)
    · refine TO.skip rfl rfl rfl (skipT hb1) rfl rfl ?_
      refine TO.skip rfl rfl rfl (skipT hb1) rfl rfl ?_
      refine TO.s rfl rfl rfl (StepS.pickT rfl hb1 rfl) ?_
      exact TO.up1 3 0 rfl rfl (by rw [hb1]; rfl) rfl
    · refine TO.sw rfl rfl rfl hb1 rfl rfl (StepS.move rfl) ?_
      refine TO.sw rfl rfl rfl hb1 rfl rfl (StepS.cmp rfl rfl rfl) ?_
      refine TO.s rfl rfl rfl (StepS.pickF rfl hb1 rfl) ?_
      exact TO.up1 3 0 rfl rfl (by rw [hb1]; rfl) rfl
  refine TO.s rfl rfl rfl (StepS.move rfl) ?_
  refine TO.mid1 3 14 (.bool (((decide (a0 < 1)) || (decide (a0 > 6))) || (decide (a1 > 60)))) ?_ ?_
  · refine bcase (((decide (a0 < 1)) || (decide (a0 > 6)))) (fun hb2 => ?_) (fun hb2 => ?_)
    · refine TO.skip rfl rfl rfl (skipT hb2) rfl rfl ?_
      refine TO.skip rfl rfl rfl (skipT hb2) rfl rfl ?_
      refine TO.s rfl rfl rfl (StepS.pickT rfl hb2 rfl) ?_
      exact TO.up1 3 0 rfl rfl (by rw [hb2]; rfl) rfl
    · refine TO.sw rfl rfl rfl hb2 rfl rfl (StepS.move rfl) ?_
      refine TO.sw rfl rfl rfl hb2 rfl rfl (StepS.cmp rfl rfl rfl) ?_
      refine TO.s rfl rfl rfl (StepS.pickF rfl hb2 rfl) ?_
      exact TO.up1 3 0 rfl rfl (by rw [hb2]; rfl) rfl
  refine TO.code ?_
  refine TC.cond rfl (fun hc3 => ?_) (fun hc3 => ?_)
  · replace hm := cond_t hc3 hm
    refine TC.k ?_
    refine TC.region ?_
    refine TO.s rfl rfl rfl (StepS.assign rfl) ?_
    refine TO.code ?_
    cases hm
    refine TC.ret fun a w e s => ?_
    refine FRet.mk1 (P := Try.prog) (fn := Try.f5) (t := 4) e rfl rfl ?_
    exact ⟨rfl, s.mono fun _ => Sat.dropN 0⟩
  · replace hm := cond_f hc3 hm
    refine TC.skipk ?_
    refine TC.k ?_
    refine TC.region ?_
    refine TO.s rfl rfl rfl (StepS.assign rfl) ?_
    refine TO.code ?_
    cases hm
    refine TC.ret fun a w e s => ?_
    refine FRet.mk1 (P := Try.prog) (fn := Try.f5) (t := 4) e rfl rfl ?_
    exact ⟨rfl, s.mono fun _ => Sat.dropN 0⟩

set_option maxRecDepth 100000 in
theorem C7 {B : World} {L : List HP} {a0 : List Int} {a1 : List Int} {h0 : Value} {h1 : Value} {r0 : Bool} (e0 : Ent L (Rd 1 h0 (a0.map cI))) (e1 : Ent L (Rd 1 h1 (a1.map cI))) (hm : F7 a0 a1 = some r0) {w : World} (st : St B L w) : Calls Try.prog 7 #[h0, h1] w (fun e w' => (e = .returned (.bool r0) ∧ St B (L) w')) := by
  refine calls_of (N := 26) (L := L) (args := [h0, h1]) Try.func7 rfl rfl rfl ?_ st
  dsimp only [F7] at hm
  refine TC.k ?_
  refine TC.region ?_
  refine TO.s rfl rfl rfl (StepS.assign rfl) ?_
  refine TO.code ?_
  refine TC.k ?_
  refine TC.k ?_
  refine TC.region ?_
  refine TO.s rfl rfl rfl (StepS.move rfl) ?_
  refine TO.s rfl rfl rfl (StepS.lenm rfl e0 ksliceB_23_28_1_true rfl) ?_
  refine TO.s rfl rfl rfl (StepS.move rfl) ?_
  refine TO.s rfl rfl rfl (StepS.lenm rfl e1 ksliceB_23_28_1_true rfl) ?_
  refine TO.s rfl rfl rfl (StepS.cmp rfl rfl rfl) ?_
  refine TO.code ?_
  refine TC.cond rfl (fun hc1 => ?_) (fun hc1 => ?_)
  · replace hm := cond_t hc1 hm
    refine TC.k ?_
    refine TC.region ?_
    refine TO.s rfl rfl rfl (StepS.assign rfl) ?_
    refine TO.code ?_
    cases hm
    refine TC.ret fun a w e s => ?_
    refine FRet.mk1 (P := Try.prog) (fn := Try.f7) (t := 4) e rfl rfl ?_
    exact ⟨rfl, s.mono fun _ => Sat.dropN 0⟩
  · replace hm := cond_f hc1 hm
    refine TC.skipk ?_
    refine TC.k ?_
    refine TC.k ?_
    refine TC.region ?_
    refine TO.s rfl rfl rfl (StepS.assign rfl) ?_
    refine TO.code ?_
    obtain ⟨o4, hw5, hm⟩ := bind_some hm
    refine TC.loop hw5 (fun x2 => fun a w => Mid 26 B [(0, h0), (1, h1), (5, I x2)] (L) a w) (fun _ => fun a w => Mid 26 B [] (L) a w) (fun r0 => FRet Try.prog Try.f7 (fun e w' => (e = .returned (.bool r0) ∧ St B (L) w'))) ?_ ?_ ?_ ?_
    · rintro x2 o4r hb6 a w ⟨he, hs⟩
      dsimp only [F7_L0] at hb6
      refine TC.use ?_ he hs
      refine TC.k ?_
      refine TC.k ?_
      refine TC.region ?_
      refine TO.s rfl rfl rfl (StepS.move rfl) ?_
      refine TO.s rfl rfl rfl (StepS.move rfl) ?_
      refine TO.s rfl rfl rfl (StepS.lenm rfl e0 ksliceB_23_28_1_true rfl) ?_
      refine TO.s rfl rfl rfl (StepS.cmp rfl rfl rfl) ?_
      refine TO.code ?_
      refine TC.cond rfl (fun hc7 => ?_) (fun hc7 => ?_)
      · replace hb6 := cond_t hc7 hb6
        refine TC.skipk ?_
        refine TC.k ?_
        refine TC.block ?_
        refine TC.k ?_
        refine TC.region_still kfollows_mixedOrders_true (by kernel_rfl) ?_
        refine TS.s rfl rfl rfl (StepS.move rfl) ?_
        refine TS.s rfl rfl rfl (StepS.move rfl) ?_
        obtain ⟨x8, hx9, hb6⟩ := bind_some hb6
        refine TS.s rfl rfl rfl (StepS.idx rfl rfl e0 ksliceB_23_28_1_true (idx_spec hx9).1 (idxm_lt hx9)) ?_
        refine TS.s rfl rfl rfl (StepS.ld0 rfl e0 kscalB_28_true rfl (idxm hx9) rfl) ?_
        refine TS.s rfl rfl rfl (StepS.move rfl) ?_
        refine TS.s rfl rfl rfl (StepS.move rfl) ?_
        obtain ⟨x10, hx11, hb6⟩ := bind_some hb6
        refine TS.s rfl rfl rfl (StepS.idx rfl rfl e1 ksliceB_23_28_1_true (idx_spec hx11).1 (idxm_lt hx11)) ?_
        refine TS.s rfl rfl rfl (StepS.ld0 rfl e1 kscalB_28_true rfl (idxm hx11) rfl) ?_
        refine TS.s rfl rfl rfl (StepS.cmp rfl rfl rfl) ?_
        refine TS.code ?_
        refine TC.cond rfl (fun hc12 => ?_) (fun hc12 => ?_)
        · replace hb6 := cond_t hc12 hb6
          refine TC.k ?_
          refine TC.region ?_
          refine TO.s rfl rfl rfl (StepS.assign rfl) ?_
          refine TO.code ?_
          cases hb6
          refine TC.ret fun a w e s => ?_
          refine FRet.mk1 (P := Try.prog) (fn := Try.f7) (t := 4) e rfl rfl ?_
          exact ⟨rfl, s.mono fun _ => Sat.dropN 0⟩
        · replace hb6 := cond_f hc12 hb6
          refine TC.skipk ?_
          refine TC.region ?_
          refine TO.s rfl rfl rfl (StepS.move rfl) ?_
          refine TO.s rfl rfl rfl (StepS.ari rfl rfl rfl) ?_
          refine TO.s rfl rfl rfl (StepS.assign rfl) ?_
          cases hb6
          refine TO.nil fun a w e s => ?_
          exact ⟨e.sub (lk_of_allIn ⟨rfl, rfl, rfl, trivial⟩), s⟩
      · replace hb6 := cond_f hc7 hb6
        cases hb6
        refine TC.exit rfl fun a w e s => ?_
        exact ⟨e.sub (lk_of_allIn trivial), s⟩
    · exact fun a w e s => ⟨e.sub (lk_of_allIn ⟨rfl, rfl, rfl, trivial⟩), s⟩
    · rintro _ rfl a w ⟨he, hs⟩
      dsimp only [Ctl.on] at hm
      refine TC.use ?_ he hs
      refine TC.k ?_
      refine TC.region ?_
      refine TO.s rfl rfl rfl (StepS.assign rfl) ?_
      refine TO.code ?_
      cases hm
      refine TC.ret fun a w e s => ?_
      refine FRet.mk1 (P := Try.prog) (fn := Try.f7) (t := 4) e rfl rfl ?_
      exact ⟨rfl, s.mono fun _ => Sat.dropN 0⟩
    · rintro r rfl
      cases hm
      exact fun a w h => h

set_option maxRecDepth 100000 in
theorem C8 {B : World} {L : List HP} {a0 : List Int} {a1 : List Int} {h0 : Value} {h1 : Value} {r0 : Bool} (e0 : Ent L (Rd 1 h0 (a0.map cI))) (e1 : Ent L (Rd 1 h1 (a1.map cI))) (hm : F8 a0 a1 = some r0) {w : World} (st : St B L w) : Calls Try.prog 8 #[h0, h1] w (fun e w' => (e = .returned (.bool r0) ∧ St B (L) w')) := by
  refine calls_of (N := 26) (L := L) (args := [h0, h1]) Try.func8 rfl rfl rfl ?_ st
  dsimp only [F8] at hm
  refine TC.k ?_
  refine TC.region ?_
  refine TO.s rfl rfl rfl (StepS.assign rfl) ?_
  refine TO.code ?_
  refine TC.k ?_
  refine TC.k ?_
  refine TC.region ?_
  refine TO.s rfl rfl rfl (StepS.move rfl) ?_
  refine TO.s rfl rfl rfl (StepS.lenm rfl e0 ksliceB_24_3_1_true rfl) ?_
  refine TO.s rfl rfl rfl (StepS.move rfl) ?_
  refine TO.s rfl rfl rfl (StepS.lenm rfl e1 ksliceB_24_3_1_true rfl) ?_
  refine TO.s rfl rfl rfl (StepS.cmp rfl rfl rfl) ?_
  refine TO.code ?_
  refine TC.cond rfl (fun hc1 => ?_) (fun hc1 => ?_)
  · replace hm := cond_t hc1 hm
    refine TC.k ?_
    refine TC.region ?_
    refine TO.s rfl rfl rfl (StepS.assign rfl) ?_
    refine TO.code ?_
    cases hm
    refine TC.ret fun a w e s => ?_
    refine FRet.mk1 (P := Try.prog) (fn := Try.f8) (t := 4) e rfl rfl ?_
    exact ⟨rfl, s.mono fun _ => Sat.dropN 0⟩
  · replace hm := cond_f hc1 hm
    refine TC.skipk ?_
    refine TC.k ?_
    refine TC.k ?_
    refine TC.region ?_
    refine TO.s rfl rfl rfl (StepS.assign rfl) ?_
    refine TO.code ?_
    obtain ⟨o4, hw5, hm⟩ := bind_some hm
    refine TC.loop hw5 (fun x2 => fun a w => Mid 26 B [(0, h0), (1, h1), (5, I x2)] (L) a w) (fun _ => fun a w => Mid 26 B [] (L) a w) (fun r0 => FRet Try.prog Try.f8 (fun e w' => (e = .returned (.bool r0) ∧ St B (L) w'))) ?_ ?_ ?_ ?_
    · rintro x2 o4r hb6 a w ⟨he, hs⟩
      dsimp only [F8_L0] at hb6
      refine TC.use ?_ he hs
      refine TC.k ?_
      refine TC.k ?_
      refine TC.region ?_
      refine TO.s rfl rfl rfl (StepS.move rfl) ?_
      refine TO.s rfl rfl rfl (StepS.move rfl) ?_
      refine TO.s rfl rfl rfl (StepS.lenm rfl e0 ksliceB_24_3_1_true rfl) ?_
      refine TO.s rfl rfl rfl (StepS.cmp rfl rfl rfl) ?_
      refine TO.code ?_
      refine TC.cond rfl (fun hc7 => ?_) (fun hc7 => ?_)
      · replace hb6 := cond_t hc7 hb6
        refine TC.skipk ?_
        refine TC.k ?_
        refine TC.block ?_
        refine TC.k ?_
        refine TC.region_still kfollows_mixedOrders_true (by kernel_rfl) ?_
        refine TS.s rfl rfl rfl (StepS.move rfl) ?_
        refine TS.s rfl rfl rfl (StepS.move rfl) ?_
        obtain ⟨x8, hx9, hb6⟩ := bind_some hb6
        refine TS.s rfl rfl rfl (StepS.idx rfl rfl e0 ksliceB_24_3_1_true (idx_spec hx9).1 (idxm_lt hx9)) ?_
        refine TS.s rfl rfl rfl (StepS.ld0 rfl e0 kscalB_3_true rfl (idxm hx9) rfl) ?_
        refine TS.s rfl rfl rfl (StepS.move rfl) ?_
        refine TS.s rfl rfl rfl (StepS.move rfl) ?_
        obtain ⟨x10, hx11, hb6⟩ := bind_some hb6
        refine TS.s rfl rfl rfl (StepS.idx rfl rfl e1 ksliceB_24_3_1_true (idx_spec hx11).1 (idxm_lt hx11)) ?_
        refine TS.s rfl rfl rfl (StepS.ld0 rfl e1 kscalB_3_true rfl (idxm hx11) rfl) ?_
        refine TS.s rfl rfl rfl (StepS.cmp rfl rfl rfl) ?_
        refine TS.code ?_
        refine TC.cond rfl (fun hc12 => ?_) (fun hc12 => ?_)
        · replace hb6 := cond_t hc12 hb6
          refine TC.k ?_
          refine TC.region ?_
          refine TO.s rfl rfl rfl (StepS.assign rfl) ?_
          refine TO.code ?_
          cases hb6
          refine TC.ret fun a w e s => ?_
          refine FRet.mk1 (P := Try.prog) (fn := Try.f8) (t := 4) e rfl rfl ?_
          exact ⟨rfl, s.mono fun _ => Sat.dropN 0⟩
        · replace hb6 := cond_f hc12 hb6
          refine TC.skipk ?_
          refine TC.region ?_
          refine TO.s rfl rfl rfl (StepS.move rfl) ?_
          refine TO.s rfl rfl rfl (StepS.ari rfl rfl rfl) ?_
          refine TO.s rfl rfl rfl (StepS.assign rfl) ?_
          cases hb6
          refine TO.nil fun a w e s => ?_
          exact ⟨e.sub (lk_of_allIn ⟨rfl, rfl, rfl, trivial⟩), s⟩
      · replace hb6 := cond_f hc7 hb6
        cases hb6
        refine TC.exit rfl fun a w e s => ?_
        exact ⟨e.sub (lk_of_allIn trivial), s⟩
    · exact fun a w e s => ⟨e.sub (lk_of_allIn ⟨rfl, rfl, rfl, trivial⟩), s⟩
    · rintro _ rfl a w ⟨he, hs⟩
      dsimp only [Ctl.on] at hm
      refine TC.use ?_ he hs
      refine TC.k ?_
      refine TC.region ?_
      refine TO.s rfl rfl rfl (StepS.assign rfl) ?_
      refine TO.code ?_
      cases hm
      refine TC.ret fun a w e s => ?_
      refine FRet.mk1 (P := Try.prog) (fn := Try.f8) (t := 4) e rfl rfl ?_
      exact ⟨rfl, s.mono fun _ => Sat.dropN 0⟩
    · rintro r rfl
      cases hm
      exact fun a w h => h

set_option maxRecDepth 100000 in
theorem C17 {B : World} {L : List HP} {a0 : List (Int × Int)} {a1 : List (Int × Int)} {h0 : Value} {h1 : Value} {r0 : Bool} (e0 : Ent L (Rd 2 h0 (a0.map cTii))) (e1 : Ent L (Rd 2 h1 (a1.map cTii))) (hm : F17 a0 a1 = some r0) {w : World} (st : St B L w) : Calls Try.prog 17 #[h0, h1] w (fun e w' => (e = .returned (.bool r0) ∧ St B (L) w')) := by
  refine calls_of (N := 26) (L := L) (args := [h0, h1]) Try.func17 rfl rfl rfl ?_ st
  dsimp only [F17] at hm
  refine TC.k ?_
  refine TC.region ?_
  refine TO.s rfl rfl rfl (StepS.assign rfl) ?_
  refine TO.code ?_
  refine TC.k ?_
  refine TC.k ?_
  refine TC.region ?_
  refine TO.s rfl rfl rfl (StepS.move rfl) ?_
  refine TO.s rfl rfl rfl (StepS.lenm rfl e1 ksliceB_36_52_2_true rfl) ?_
  refine TO.s rfl rfl rfl (StepS.move rfl) ?_
  refine TO.s rfl rfl rfl (StepS.lenm rfl e0 ksliceB_36_52_2_true rfl) ?_
  refine TO.s rfl rfl rfl (StepS.cmp rfl rfl rfl) ?_
  refine TO.code ?_
  refine TC.cond rfl (fun hc1 => ?_) (fun hc1 => ?_)
  · replace hm := cond_t hc1 hm
    refine TC.k ?_
    refine TC.region ?_
    refine TO.s rfl rfl rfl (StepS.assign rfl) ?_
    refine TO.code ?_
    cases hm
    refine TC.ret fun a w e s => ?_
    refine FRet.mk1 (P := Try.prog) (fn := Try.f17) (t := 4) e rfl rfl ?_
    exact ⟨rfl, s.mono fun _ => Sat.dropN 0⟩
  · replace hm := cond_f hc1 hm
    refine TC.skipk ?_
    refine TC.k ?_
    refine TC.k ?_
    refine TC.region ?_
    refine TO.s rfl rfl rfl (StepS.assign rfl) ?_
    refine TO.code ?_
    obtain ⟨o4, hw5, hm⟩ := bind_some hm
    refine TC.loop hw5 (fun x2 => fun a w => Mid 26 B [(0, h0), (1, h1), (5, I x2)] (L) a w) (fun _ => fun a w => Mid 26 B [] (L) a w) (fun r0 => FRet Try.prog Try.f17 (fun e w' => (e = .returned (.bool r0) ∧ St B (L) w'))) ?_ ?_ ?_ ?_
    · rintro x2 o4r hb6 a w ⟨he, hs⟩
      dsimp only [F17_L0] at hb6
      refine TC.use ?_ he hs
      refine TC.k ?_
      refine TC.k ?_
      refine TC.region ?_
      refine TO.s rfl rfl rfl (StepS.move rfl) ?_
      refine TO.s rfl rfl rfl (StepS.move rfl) ?_
      refine TO.s rfl rfl rfl (StepS.lenm rfl e1 ksliceB_36_52_2_true rfl) ?_
      refine TO.s rfl rfl rfl (StepS.cmp rfl rfl rfl) ?_
      refine TO.code ?_
      refine TC.cond rfl (fun hc7 => ?_) (fun hc7 => ?_)
      · replace hb6 := cond_t hc7 hb6
        refine TC.skipk ?_
        refine TC.k ?_
        refine TC.block ?_
        refine TC.k ?_
        refine TC.region_still kfollows_mixedOrders_true (by kernel_rfl) ?_
        refine TS.s rfl rfl rfl (StepS.move rfl) ?_
        refine TS.s rfl rfl rfl (StepS.move rfl) ?_
        obtain ⟨x8, hx9, hb6⟩ := bind_some hb6
        refine TS.s rfl rfl rfl (StepS.idx rfl rfl e0 ksliceB_36_52_2_true (idx_spec hx9).1 (idxm_lt hx9)) ?_
        refine TS.s rfl rfl rfl (StepS.ldE rfl e0 kaggB_52_2_true rfl (idxm hx9)) ?_
        refine TS.s rfl rfl rfl (StepS.move rfl) ?_
        refine TS.s rfl rfl rfl (StepS.move rfl) ?_
        obtain ⟨x10, hx11, hb6⟩ := bind_some hb6
        refine TS.s rfl rfl rfl (StepS.idx rfl rfl e1 ksliceB_36_52_2_true (idx_spec hx11).1 (idxm_lt hx11)) ?_
        refine TS.s rfl rfl rfl (StepS.ldE rfl e1 kaggB_52_2_true rfl (idxm hx11)) ?_
        refine TS.s rfl rfl rfl (StepS.neSt (r := ((x8.1 == x10.1) && ((x8.2 == x10.2) && true))) kunderlying_52_some_struct_fieldsOf_52 kstoodInHeld_52_false keqGuardType_depth_52_false rfl rfl (by kernel_rfl)) ?_
        refine TS.code ?_
        refine TC.cond rfl (fun hc12 => ?_) (fun hc12 => ?_)
        · replace hb6 := cond_t hc12 hb6
          refine TC.k ?_
          refine TC.region ?_
          refine TO.s rfl rfl rfl (StepS.assign rfl) ?_
          refine TO.code ?_
          cases hb6
          refine TC.ret fun a w e s => ?_
          refine FRet.mk1 (P := Try.prog) (fn := Try.f17) (t := 4) e rfl rfl ?_
          exact ⟨rfl, s.mono fun _ => Sat.dropN 0⟩
        · replace hb6 := cond_f hc12 hb6
          refine TC.skipk ?_
          refine TC.region ?_
          refine TO.s rfl rfl rfl (StepS.move rfl) ?_
          refine TO.s rfl rfl rfl (StepS.ari rfl rfl rfl) ?_
          refine TO.s rfl rfl rfl (StepS.assign rfl) ?_
          cases hb6
          refine TO.nil fun a w e s => ?_
          exact ⟨e.sub (lk_of_allIn ⟨rfl, rfl, rfl, trivial⟩), s⟩
      · replace hb6 := cond_f hc7 hb6
        cases hb6
        refine TC.exit rfl fun a w e s => ?_
        exact ⟨e.sub (lk_of_allIn trivial), s⟩
    · exact fun a w e s => ⟨e.sub (lk_of_allIn ⟨rfl, rfl, rfl, trivial⟩), s⟩
    · rintro _ rfl a w ⟨he, hs⟩
      dsimp only [Ctl.on] at hm
      refine TC.use ?_ he hs
      refine TC.k ?_
      refine TC.region ?_
      refine TO.s rfl rfl rfl (StepS.assign rfl) ?_
      refine TO.code ?_
      cases hm
      refine TC.ret fun a w e s => ?_
      refine FRet.mk1 (P := Try.prog) (fn := Try.f17) (t := 4) e rfl rfl ?_
      exact ⟨rfl, s.mono fun _ => Sat.dropN 0⟩
    · rintro r rfl
      cases hm
      exact fun a w h => h

set_option maxRecDepth 100000 in
theorem C9 {B : World} {L : List HP} {a0 : List (Int × Int)} {a1 : List (Int × Int)} {h0 : Value} {h1 : Value} {r0 : Bool} (e0 : Ent L (Rd 2 h0 (a0.map cTii))) (e1 : Ent L (Rd 2 h1 (a1.map cTii))) (hm : F9 a0 a1 = some r0) {w : World} (st : St B L w) : Calls Try.prog 9 #[h0, h1] w (fun e w' => (e = .returned (.bool r0) ∧ St B (L) w')) := by
  refine calls_of (N := 15) (L := L) (args := [h0, h1]) Try.func9 rfl rfl rfl ?_ st
  dsimp only [F9] at hm
  refine TC.k ?_
  refine TC.region ?_
  refine TO.s rfl rfl rfl (StepS.assign rfl) ?_
  refine TO.code ?_
  refine TC.k ?_
  refine TC.region ?_
  refine TO.s rfl rfl rfl (StepS.move rfl) ?_
  refine TO.s rfl rfl rfl (StepS.lenm rfl e0 ksliceB_36_52_2_true rfl) ?_
  refine TO.s rfl rfl rfl (StepS.move rfl) ?_
  refine TO.s rfl rfl rfl (StepS.lenm rfl e1 ksliceB_36_52_2_true rfl) ?_
  refine TO.s rfl rfl rfl (StepS.cmp rfl rfl rfl) ?_
  refine TO.s rfl rfl rfl (StepS.move rfl) ?_
  obtain ⟨b2, hj3, hm⟩ := bind_some hm
  refine TO.mid1 4 14 (.bool b2) ?_ ?_
  · refine bcase (((a0.length : Int) == (a1.length : Int))) (fun hb1 => ?_) (fun hb1 => ?_)
    · replace hj3 := cond_t hb1 hj3
      refine TO.sw rfl rfl rfl hb1 rfl rfl (StepS.move rfl) ?_
      refine TO.sw rfl rfl rfl hb1 rfl rfl (StepS.move rfl) ?_
      obtain ⟨r4, hc5, hj3⟩ := bind_some hj3
      refine TO.qw rfl rfl rfl hb1 rfl rfl (StepQ.call kcallB_17_true rfl rfl (fun _ st => C17 e0 e1 hc5 st)) ?_
      cases hj3
      refine TO.s rfl rfl rfl (StepS.pickT rfl hb1 rfl) ?_
      exact TO.up1 4 0 rfl rfl rfl rfl
    · replace hj3 := cond_f hb1 hj3
      cases hj3
      refine TO.skip rfl rfl rfl (skipF hb1) rfl rfl ?_
      refine TO.skip rfl rfl rfl (skipF hb1) rfl rfl ?_
      refine TO.skip rfl rfl rfl (skipF hb1) rfl rfl ?_
      refine TO.s rfl rfl rfl (StepS.pickF rfl hb1 rfl) ?_
      exact TO.up1 4 0 rfl rfl rfl rfl
  refine TO.s rfl rfl rfl (StepS.assign rfl) ?_
  refine TO.code ?_
  cases hm
  refine TC.ret fun a w e s => ?_
  refine FRet.mk1 (P := Try.prog) (fn := Try.f9) (t := 4) e rfl rfl ?_
  exact ⟨rfl, s.mono fun _ => Sat.dropN 0⟩
end Go.Proofs.Ytacggcanjanmkaa
