/-
  The walks: each Go function returns what its model says. Written by a program (gen.py).
-/
import Derived.Test.YthfkdepcnhhepaaProg
import Derived.KernelRfl
import Derived.Test.YthfkdepcnhhepaaQM
namespace Go.Proofs.Ythfkdepcnhhepaa
open Go Go.Bk
set_option linter.unusedVariables false
set_option linter.unnecessarySimpa false
theorem kelemB_181_185_4_32_true : elemB Try.prog 181 185 4 32 = true := by kernel_rfl
theorem kinfo_185_bind_zero_some_agg_I_0_I_0_I_0_U_0 : (Try.prog.info? 185).bind (·.zero) = some (.agg #[I 0, I 0, I 0, U 0]) := by kernel_rfl
theorem kfieldB_183_0_0_true : fieldB Try.prog 183 0 0 = true := by kernel_rfl
theorem kscalB_181_true : scalB Try.prog 181 = true := by kernel_rfl
theorem ksliceB_181_185_4_true : sliceB Try.prog 181 185 4 = true := by kernel_rfl
theorem kfieldB_185_2_2_true : fieldB Try.prog 185 2 2 = true := by kernel_rfl
theorem ksizeB_3_1_true : sizeB Try.prog 3 1 = true := by kernel_rfl
theorem kscalB_179_true : scalB Try.prog 179 = true := by kernel_rfl
theorem kfollows_mixedOrders_true : Try.prog.follows .mixedOrders = true := by kernel_rfl
theorem kunderlying_9_some_string : Try.prog.underlying 9 = some .string := by kernel_rfl
theorem kintB_5_u8_true : intB Try.prog 5 .u8 = true := by kernel_rfl
theorem kintB_3_i64_true : intB Try.prog 3 .i64 = true := by kernel_rfl
theorem kfieldB_185_3_3_true : fieldB Try.prog 185 3 3 = true := by kernel_rfl
theorem kscalB_36_true : scalB Try.prog 36 = true := by kernel_rfl
theorem ksizeB_36_1_true : sizeB Try.prog 36 1 = true := by kernel_rfl
theorem kfieldB_185_1_1_true : fieldB Try.prog 185 1 1 = true := by kernel_rfl
theorem kscalB_3_true : scalB Try.prog 3 = true := by kernel_rfl
theorem kcallB_129_true : callB Try.prog 129 = true := by kernel_rfl
theorem kfieldB_183_1_1_true : fieldB Try.prog 183 1 1 = true := by kernel_rfl
theorem kscalB_85_true : scalB Try.prog 85 = true := by kernel_rfl
theorem kfieldB_185_0_0_true : fieldB Try.prog 185 0 0 = true := by kernel_rfl
theorem kelemB_85_114_2_16_true : elemB Try.prog 85 114 2 16 = true := by kernel_rfl
theorem kinfo_114_bind_zero_some_agg_I_0_I_0 : (Try.prog.info? 114).bind (·.zero) = some (.agg #[I 0, I 0]) := by kernel_rfl
theorem ksizeB_85_1_true : sizeB Try.prog 85 1 = true := by kernel_rfl
theorem ksizeB_185_4_true : sizeB Try.prog 185 4 = true := by kernel_rfl
theorem kcallB_136_true : callB Try.prog 136 = true := by kernel_rfl
theorem kcallB_137_true : callB Try.prog 137 = true := by kernel_rfl
theorem kfieldB_106_0_0_true : fieldB Try.prog 106 0 0 = true := by kernel_rfl
theorem kfieldB_106_1_1_true : fieldB Try.prog 106 1 1 = true := by kernel_rfl
theorem kcallB_107_true : callB Try.prog 107 = true := by kernel_rfl
theorem kfieldB_106_2_2_true : fieldB Try.prog 106 2 2 = true := by kernel_rfl
theorem kcallB_108_true : callB Try.prog 108 = true := by kernel_rfl
theorem kcallB_109_true : callB Try.prog 109 = true := by kernel_rfl
theorem kcallB_110_true : callB Try.prog 110 = true := by kernel_rfl
theorem kcallB_111_true : callB Try.prog 111 = true := by kernel_rfl
theorem kinfo_87_bind_zero_some_agg_slice_none_0_0_slice_none_0_0_slice_none_0_0_slice_none_0_0_slice_none_0_0 : (Try.prog.info? 87).bind (·.zero) = some (.agg #[.slice none 0 0, .slice none 0 0, .slice none 0 0, .slice none 0 0, .slice none 0 0]) := by kernel_rfl
theorem ksliceB_23_106_4_true : sliceB Try.prog 23 106 4 = true := by kernel_rfl
theorem ksizeB_87_5_true : sizeB Try.prog 87 5 = true := by kernel_rfl
theorem kaggB_87_5_true : aggB Try.prog 87 5 = true := by kernel_rfl
theorem kcallB_74_true : callB Try.prog 74 = true := by kernel_rfl
theorem kaggB_106_4_true : aggB Try.prog 106 4 = true := by kernel_rfl
theorem kinfo_106_bind_zero_some_agg_I_0_I_0_I_0_I_0 : (Try.prog.info? 106).bind (·.zero) = some (.agg #[I 0, I 0, I 0, I 0]) := by kernel_rfl
theorem ksizeB_106_4_true : sizeB Try.prog 106 4 = true := by kernel_rfl
theorem kfieldB_87_0_0_true : fieldB Try.prog 87 0 0 = true := by kernel_rfl
theorem kscalB_24_true : scalB Try.prog 24 = true := by kernel_rfl
theorem kcallB_75_true : callB Try.prog 75 = true := by kernel_rfl
theorem kelemB_24_28_1_8_true : elemB Try.prog 24 28 1 8 = true := by kernel_rfl
theorem kinfo_28_bind_zero_some_I_0 : (Try.prog.info? 28).bind (·.zero) = some (I 0) := by kernel_rfl
theorem ksizeB_24_1_true : sizeB Try.prog 24 1 = true := by kernel_rfl
theorem kaggB_185_4_true : aggB Try.prog 185 4 = true := by kernel_rfl
theorem kfieldB_87_1_1_true : fieldB Try.prog 87 1 1 = true := by kernel_rfl
theorem kscalB_22_true : scalB Try.prog 22 = true := by kernel_rfl
theorem kelemB_22_3_1_8_true : elemB Try.prog 22 3 1 8 = true := by kernel_rfl
theorem kinfo_3_bind_zero_some_I_0 : (Try.prog.info? 3).bind (·.zero) = some (I 0) := by kernel_rfl
theorem kfieldB_87_2_2_true : fieldB Try.prog 87 2 2 = true := by kernel_rfl
theorem kfieldB_87_3_3_true : fieldB Try.prog 87 3 3 = true := by kernel_rfl
theorem ksizeB_22_1_true : sizeB Try.prog 22 1 = true := by kernel_rfl
theorem kfieldB_87_4_4_true : fieldB Try.prog 87 4 4 = true := by kernel_rfl

set_option maxRecDepth 100000 in
theorem C74 {B : World} {L : List HP} {a0 : Int} {r0 : (List (Int × Int × Int × BitVec 32)) × List (Int × Int)} (hm : F74 a0 = some r0) {w : World} (st : St B L w) : Calls Try.prog 74 #[I a0] w (fun e w' => ∃ v M, e = .returned v ∧ (∃ (qb3 : Nat) (qv1 : Value) (qv2 : Value), v = .pointer (some ⟨qb3, 0, none⟩) ∧ M = (Bx qb3 183 [qv1, qv2] :: OwnS 185 4 qv1 (r0.1.map cTiiiiu32) :: OwnS 114 2 qv2 (r0.2.map cTii) :: L)) ∧ St B M w') := by
  refine calls_of (N := 26) (L := L) (args := [I a0]) Try.func74 rfl rfl rfl ?_ st
  dsimp only [F74] at hm
  refine TC.k ?_
  refine TC.region ?_
  refine TO.s rfl rfl rfl (StepS.assign rfl) ?_
  refine TO.code ?_
  refine TC.k ?_
  refine TC.region ?_
  refine TO.s rfl rfl rfl (StepS.move rfl) ?_
  obtain ⟨y3, hk4, hm⟩ := bind_some hm
  refine TO.mkS (f := cTiiiiu32) (za := (0, 0, 0, 0)) kelemB_181_185_4_32_true kinfo_185_bind_zero_some_agg_I_0_I_0_I_0_U_0 rfl (by decide) rfl rfl hk4 rfl fun v5 => ?_
  refine TO.pure (fun _ s => Rd.one (OwnS.rd (Ent.at 0 rfl)) s) fun oc7 => ?_
  refine TO.s rfl rfl rfl (StepS.buildS (us := [(0, .agg #[v5])]) (cs := [v5, .slice none 0 0]) rfl (by simp only [List.map_cons, List.map_nil, oc7.2] <;> rfl) (by kernel_rfl)) ?_
  refine TO.box (cs := [v5, .slice none 0 0]) rfl rfl rfl fun b8 => ?_
  refine TO.s rfl rfl rfl (StepS.assign rfl) ?_
  refine TO.code ?_
  refine TC.k ?_
  refine TC.k ?_
  refine TC.region ?_
  refine TO.s rfl rfl rfl (StepS.move rfl) ?_
  refine TO.s rfl rfl rfl (StepS.nilc rfl) ?_
  refine TO.s rfl rfl rfl (StepS.fld rfl kfieldB_183_0_0_true) ?_
  refine TO.s rfl rfl rfl (StepS.ldB rfl (Ent.at 0 rfl) kscalB_181_true rfl) ?_
  refine TO.s rfl rfl rfl (StepS.lenm rfl (OwnS.rd (Ent.at 1 rfl)) ksliceB_181_185_4_true rfl) ?_
  refine TO.s rfl rfl rfl (StepS.move rfl) ?_
  refine TO.code ?_
  obtain ⟨o14, hw15, hm⟩ := bind_some hm
  refine TC.loop hw15 (fun (y9, x10) => fun a w => Mid 26 B [(3, .pointer (some ⟨b8, 0, none⟩)), (13, I (y3.length : Int)), (14, I x10)] (Bx b8 183 [v5, .slice none 0 0] :: OwnS 185 4 v5 (y9.map cTiiiiu32) :: L) a w) (fun y13 => fun a w => Mid 26 B [(3, .pointer (some ⟨b8, 0, none⟩))] (Bx b8 183 [v5, .slice none 0 0] :: OwnS 185 4 v5 (y13.map cTiiiiu32) :: L) a w) (fun (_ : Unit) _ _ => False) ?_ ?_ ?_ ?_
  · rintro ⟨y9, x10⟩ o14r hb16 a w ⟨he, hs⟩
    dsimp only [F74_L0] at hb16
    refine TC.use ?_ he hs
    refine TC.k ?_
    refine TC.region ?_
    refine TO.s rfl rfl rfl (StepS.cmp rfl rfl rfl) ?_
    refine TO.code ?_
    refine TC.k ?_
    refine TC.cond rfl (fun hc17 => ?_) (fun hc17 => ?_)
    · replace hb16 := cond_t hc17 hb16
      refine TC.skipk ?_
      refine TC.k ?_
      refine TC.block ?_
      refine TC.k ?_
      refine TC.region ?_
      refine TO.s rfl rfl rfl (StepS.move rfl) ?_
      refine TO.s rfl rfl rfl (StepS.assign rfl) ?_
      refine TO.code ?_
      refine TC.region ?_
      refine TO.s rfl rfl rfl (StepS.move rfl) ?_
      refine TO.s rfl rfl rfl (StepS.nilc rfl) ?_
      refine TO.s rfl rfl rfl (StepS.fld rfl kfieldB_183_0_0_true) ?_
      refine TO.s rfl rfl rfl (StepS.ldB rfl (Ent.at 0 rfl) kscalB_181_true rfl) ?_
      refine TO.s rfl rfl rfl (StepS.move rfl) ?_
      obtain ⟨x18, hx19, hb16⟩ := bind_some hb16
      refine TO.s rfl rfl rfl (StepS.idx rfl rfl (OwnS.rd (Ent.at 1 rfl)) ksliceB_181_185_4_true (idx_spec hx19).1 (idxm_lt hx19)) ?_
      refine TO.s rfl rfl rfl (StepS.ptrf rfl kfieldB_185_2_2_true) ?_
      refine TO.stO (i := x10.toNat) (off := 2) (us := [I (-1)]) 1 (x18.1, x18.2.1, (-1), x18.2.2.2) rfl rfl rfl ksizeB_3_1_true rfl rfl rfl (idx_spec hx19).2 rfl (by simp [Value.oneCell']) rfl ?_
      refine TO.code ?_
      refine TC.region ?_
      refine TO.s rfl rfl rfl (StepS.ari rfl rfl rfl) ?_
      refine TO.s rfl rfl rfl (StepS.move rfl) ?_
      cases hb16
      refine TO.nil fun a w e s => ?_
      exact ⟨e.sub (lk_of_allIn ⟨rfl, rfl, rfl, trivial⟩), s⟩
    · replace hb16 := cond_f hc17 hb16
      cases hb16
      refine TC.exit rfl fun a w e s => ?_
      exact ⟨e.sub (lk_of_allIn ⟨rfl, trivial⟩), s⟩
  · exact fun a w e s => ⟨e.sub (lk_of_allIn ⟨rfl, rfl, rfl, trivial⟩), s⟩
  · rintro y13 rfl a w ⟨he, hs⟩
    dsimp only [Ctl.on] at hm
    refine TC.use ?_ he hs
    refine TC.k ?_
    refine TC.region ?_
    refine TO.s rfl rfl rfl (StepS.move rfl) ?_
    refine TO.s rfl rfl rfl (StepS.assign rfl) ?_
    refine TO.code ?_
    cases hm
    refine TC.ret fun a w e s => ?_
    refine FRet.mk1 (P := Try.prog) (fn := Try.f74) (t := 2) e rfl rfl ?_
    refine ⟨_, _, rfl, ⟨b8, (v5), (.slice none 0 0), rfl, rfl⟩, ?_⟩
    refine s.mono fun _ s => ?_
    replace s := Sat.nilS (e := 114) (sz := 2) (f := cTii) s
    replace s := Sat.front 2 rfl s
    replace s := Sat.front 2 rfl s
    exact s
  · rintro r rfl
    exact fun a w h => h.elim

set_option maxRecDepth 100000 in
theorem C107 {B : World} {L : List HP} {a0 : Int} {a1_0 : Nat} {b1_ : Nat} {c1_ : Nat} {h1_0 : Value} {u1_1_0 : Value} {r0 : Bool} (g1 : Ent L (Bx b1_ 179 [.pointer (some ⟨c1_, 0, none⟩)])) (gg1 : Ent L (Bx c1_ 183 [h1_0, u1_1_0])) (e1_0 : Ent L (Hd h1_0 a1_0)) (hm : F107 a0 a1_0 = some r0) {w : World} (st : St B L w) : Calls Try.prog 107 #[I a0, .pointer (some ⟨b1_, 0, none⟩)] w (fun e w' => (e = .returned (.bool r0) ∧ St B (L) w')) := by
  refine calls_of (N := 15) (L := L) (args := [I a0, .pointer (some ⟨b1_, 0, none⟩)]) Try.func107 rfl rfl rfl ?_ st
  dsimp only [F107] at hm
  refine TC.k ?_
  refine TC.region ?_
  refine TO.s rfl rfl rfl (StepS.assign rfl) ?_
  refine TO.code ?_
  refine TC.k ?_
  refine TC.region ?_
  refine TO.s rfl rfl rfl (StepS.move rfl) ?_
  refine TO.s rfl rfl rfl (StepS.cmp rfl rfl rfl) ?_
  refine TO.s rfl rfl rfl (StepS.move rfl) ?_
  refine TO.mid1 8 14 (.bool ((decide (a0 < 0)) || (decide (a0 ≥ (a1_0 : Int))))) ?_ ?_
  · refine bcase ((decide (a0 < 0))) (fun hb1 => ?_) (fun hb1 => ?_)
    · refine TO.skip rfl rfl rfl (skipT hb1) rfl rfl ?_
      refine TO.skip rfl rfl rfl (skipT hb1) rfl rfl ?_
      refine TO.skip rfl rfl rfl (skipT hb1) rfl rfl ?_
      refine TO.skip rfl rfl rfl (skipT hb1) rfl rfl ?_
      refine TO.skip rfl rfl rfl (skipT hb1) rfl rfl ?_
      refine TO.skip rfl rfl rfl (skipT hb1) rfl rfl ?_
      refine TO.skip rfl rfl rfl (skipT hb1) rfl rfl ?_
      refine TO.s rfl rfl rfl (StepS.pickT rfl hb1 rfl) ?_
      exact TO.up1 8 0 rfl rfl (by rw [hb1]; rfl) rfl
    · refine TO.sw rfl rfl rfl hb1 rfl rfl (StepS.move rfl) ?_
      refine TO.sw rfl rfl rfl hb1 rfl rfl (StepS.ldB rfl g1 kscalB_179_true rfl) ?_
      refine TO.sw rfl rfl rfl hb1 rfl rfl (StepS.nilc rfl) ?_
      refine TO.sw rfl rfl rfl hb1 rfl rfl (StepS.fld rfl kfieldB_183_0_0_true) ?_
      refine TO.sw rfl rfl rfl hb1 rfl rfl (StepS.ldB rfl gg1 kscalB_181_true rfl) ?_
      refine TO.sw rfl rfl rfl hb1 rfl rfl (StepS.lenHd rfl e1_0 ksliceB_181_185_4_true rfl) ?_
      refine TO.sw rfl rfl rfl hb1 rfl rfl (StepS.cmp rfl rfl rfl) ?_
      refine TO.s rfl rfl rfl (StepS.pickF rfl hb1 rfl) ?_
      exact TO.up1 8 0 rfl rfl (by rw [hb1]; rfl) rfl
  refine TO.s rfl rfl rfl (StepS.assign rfl) ?_
  refine TO.code ?_
  cases hm
  refine TC.ret fun a w e s => ?_
  refine FRet.mk1 (P := Try.prog) (fn := Try.f107) (t := 3) e rfl rfl ?_
  exact ⟨rfl, s.mono fun _ => Sat.dropN 0⟩

set_option maxRecDepth 100000 in
theorem C129 {B : World} {L : List HP} {a0 : BitVec 32} {r0 : Int} (hm : F129 a0 = some r0) {w : World} (st : St B L w) : Calls Try.prog 129 #[U a0] w (fun e w' => (e = .returned (I r0) ∧ St B (L) w')) := by
  refine calls_of (N := 21) (L := L) (args := [U a0]) Try.func129 rfl rfl rfl ?_ st
  dsimp only [F129] at hm
  refine TC.k ?_
  refine TC.region ?_
  refine TO.s rfl rfl rfl (StepS.assign rfl) ?_
  refine TO.code ?_
  refine TC.k ?_
  refine TC.region_still kfollows_mixedOrders_true (by kernel_rfl) ?_
  refine TS.s rfl rfl rfl (StepS.move rfl) ?_
  refine TS.s rfl rfl rfl (StepS.shr rfl rfl (by decide)) ?_
  obtain ⟨x1, hx2, hm⟩ := bind_some hm
  refine TS.s rfl rfl rfl (StepS.idxTab rfl kunderlying_9_some_string (by kernel_rfl) hx2) ?_
  refine TS.s rfl rfl rfl (StepS.move rfl) ?_
  refine TS.s rfl rfl rfl (StepS.shr rfl rfl (by decide)) ?_
  refine TS.s rfl rfl rfl (StepS.bitU (n := 255#32) rfl rfl rfl) ?_
  obtain ⟨x3, hx4, hm⟩ := bind_some hm
  refine TS.s rfl rfl rfl (StepS.idxTab rfl kunderlying_9_some_string (by kernel_rfl) hx4) ?_
  refine TS.s rfl rfl rfl (StepS.addB rfl rfl) ?_
  refine TS.s rfl rfl rfl (StepS.move rfl) ?_
  refine TS.s rfl rfl rfl (StepS.shr rfl rfl (by decide)) ?_
  refine TS.s rfl rfl rfl (StepS.bitU (n := 255#32) rfl rfl rfl) ?_
  obtain ⟨x5, hx6, hm⟩ := bind_some hm
  refine TS.s rfl rfl rfl (StepS.idxTab rfl kunderlying_9_some_string (by kernel_rfl) hx6) ?_
  refine TS.s rfl rfl rfl (StepS.addB rfl rfl) ?_
  refine TS.s rfl rfl rfl (StepS.move rfl) ?_
  refine TS.s rfl rfl rfl (StepS.bitU (n := 255#32) rfl rfl rfl) ?_
  obtain ⟨x7, hx8, hm⟩ := bind_some hm
  refine TS.s rfl rfl rfl (StepS.idxTab rfl kunderlying_9_some_string (by kernel_rfl) hx8) ?_
  refine TS.s rfl rfl rfl (StepS.addB rfl rfl) ?_
  refine TS.s rfl rfl rfl (StepS.cvB kintB_5_u8_true kintB_3_i64_true rfl) ?_
  refine TS.s rfl rfl rfl (StepS.assign rfl) ?_
  refine TS.code ?_
  cases hm
  refine TC.ret fun a w e s => ?_
  refine FRet.mk1 (P := Try.prog) (fn := Try.f129) (t := 2) e rfl rfl ?_
  exact ⟨rfl, s.mono fun _ => Sat.dropN 0⟩

set_option maxRecDepth 100000 in
theorem C136 {B : World} {L : List HP} {a0 : (List (Int × Int × Int × BitVec 32)) × List (Int × Int)} {a1 : Int} {a2 : Int} {b0_ : Nat} {h0_1 : Value} {h0_2 : Value} {s0 : (List (Int × Int × Int × BitVec 32)) × List (Int × Int)} (hm : F136 a0 a1 a2 = some s0) {w : World} (st : St B (Bx b0_ 183 [h0_1, h0_2] :: OwnS 185 4 h0_1 (a0.1.map cTiiiiu32) :: OwnS 114 2 h0_2 (a0.2.map cTii) :: L) w) : Calls Try.prog 136 #[.pointer (some ⟨b0_, 0, none⟩), I a1, I a2] w (fun e w' => ∃ v M, e = .returned v ∧ (∃ (qv1 : Value), v = .tuple #[] ∧ M = (Bx b0_ 183 [h0_1, qv1] :: OwnS 185 4 h0_1 (s0.1.map cTiiiiu32) :: OwnS 114 2 qv1 (s0.2.map cTii) :: L)) ∧ St B M w') := by
  refine calls_of (N := 59) (L := (Bx b0_ 183 [h0_1, h0_2] :: OwnS 185 4 h0_1 (a0.1.map cTiiiiu32) :: OwnS 114 2 h0_2 (a0.2.map cTii) :: L)) (args := [.pointer (some ⟨b0_, 0, none⟩), I a1, I a2]) Try.func136 rfl rfl rfl ?_ st
  dsimp only [F136] at hm
  refine TC.k ?_
  refine TC.region ?_
  refine TO.s rfl rfl rfl (StepS.move rfl) ?_
  refine TO.s rfl rfl rfl (StepS.nilc rfl) ?_
  refine TO.s rfl rfl rfl (StepS.fld rfl kfieldB_183_0_0_true) ?_
  refine TO.s rfl rfl rfl (StepS.ldB rfl (Ent.at 0 rfl) kscalB_181_true rfl) ?_
  refine TO.s rfl rfl rfl (StepS.move rfl) ?_
  obtain ⟨x5, hx6, hm⟩ := bind_some hm
  refine TO.s rfl rfl rfl (StepS.idx rfl rfl (OwnS.rd (Ent.at 1 rfl)) ksliceB_181_185_4_true (idx_spec hx6).1 (idxm_lt hx6)) ?_
  refine TO.s rfl rfl rfl (StepS.assign rfl) ?_
  refine TO.code ?_
  refine TC.k ?_
  refine TC.region_tail 9 kfollows_mixedOrders_true (by kernel_rfl) ?_
  refine TS.s rfl rfl rfl (StepS.move rfl) ?_
  refine TS.s rfl rfl rfl (StepS.nilc rfl) ?_
  refine TS.s rfl rfl rfl (StepS.ptrf rfl kfieldB_185_3_3_true) ?_
  refine TS.s rfl rfl rfl (StepS.ld1 rfl (OwnS.rd (Ent.at 1 rfl)) kscalB_36_true rfl (idxm hx6) rfl) ?_
  refine TS.s rfl rfl rfl (StepS.move rfl) ?_
  obtain ⟨k7, hk8, hm⟩ := bind_some hm
  refine TS.s rfl rfl rfl (StepS.shlk (m := 1#32) rfl rfl hk8) ?_
  refine TS.s rfl rfl rfl (StepS.bitU rfl rfl rfl) ?_
  refine TS.s rfl rfl rfl (StepS.nilc rfl) ?_
  refine TS.s rfl rfl rfl (StepS.ptrf rfl kfieldB_185_3_3_true) ?_
  refine TS.nil ?_
  refine TO.at ?_
  refine TO.stO (i := a1.toNat) (off := 3) (us := [U (x5.2.2.2 ||| ((1#32) <<< k7))]) 1 (x5.1, x5.2.1, x5.2.2.1, (x5.2.2.2 ||| ((1#32) <<< k7))) rfl rfl rfl ksizeB_36_1_true rfl rfl rfl (idx_spec hx6).2 rfl (by simp [Value.oneCell']) rfl ?_
  refine TO.code ?_
  refine TC.k ?_
  refine TC.region_quiet kfollows_mixedOrders_true (by kernel_rfl) ?_
  refine TQ.s rfl rfl rfl (StepS.move rfl).q ?_
  refine TQ.s rfl rfl rfl (StepS.nilc rfl).q ?_
  refine TQ.s rfl rfl rfl (StepS.ptrf rfl kfieldB_185_1_1_true).q ?_
  obtain ⟨x9, hx10, hm⟩ := bind_some hm
  refine TQ.s rfl rfl rfl (StepS.ld1 rfl (OwnS.rd (Ent.at 1 rfl)) kscalB_3_true rfl (idxm hx10) rfl).q ?_
  refine TQ.s rfl rfl rfl (StepS.cmp rfl rfl rfl).q ?_
  refine TQ.s rfl rfl rfl (StepS.move rfl).q ?_
  obtain ⟨b12, hj13, hm⟩ := bind_some hm
  refine TQ.mid1 13 40 (.bool b12) ?_ ?_
  · refine bcase ((x9.2.1 == 1)) (fun hb11 => ?_) (fun hb11 => ?_)
    · replace hj13 := cond_t hb11 hj13
      refine TQ.sw rfl rfl rfl hb11 rfl rfl (StepS.move rfl).q ?_
      refine TQ.sw rfl rfl rfl hb11 rfl rfl (StepS.nilc rfl).q ?_
      refine TQ.sw rfl rfl rfl hb11 rfl rfl (StepS.ptrf rfl kfieldB_185_3_3_true).q ?_
      obtain ⟨x14, hx15, hj13⟩ := bind_some hj13
      refine TQ.sw rfl rfl rfl hb11 rfl rfl (StepS.ld1 rfl (OwnS.rd (Ent.at 1 rfl)) kscalB_36_true rfl (idxm hx15) rfl).q ?_
      obtain ⟨r16, hc17, hj13⟩ := bind_some hj13
      refine TQ.sw rfl rfl rfl hb11 rfl rfl (StepQ.call kcallB_129_true rfl rfl (fun _ st => C129  hc17 st)) ?_
      refine TQ.sw rfl rfl rfl hb11 rfl rfl (StepS.ari rfl rfl rfl).q ?_
      refine TQ.sw rfl rfl rfl hb11 rfl rfl (StepS.move rfl).q ?_
      refine TQ.sw rfl rfl rfl hb11 rfl rfl (StepS.nilc rfl).q ?_
      refine TQ.sw rfl rfl rfl hb11 rfl rfl (StepS.fld rfl kfieldB_183_0_0_true).q ?_
      refine TQ.sw rfl rfl rfl hb11 rfl rfl (StepS.ldB rfl (Ent.at 0 rfl) kscalB_181_true rfl).q ?_
      refine TQ.sw rfl rfl rfl hb11 rfl rfl (StepS.lenm rfl (OwnS.rd (Ent.at 1 rfl)) ksliceB_181_185_4_true rfl).q ?_
      refine TQ.sw rfl rfl rfl hb11 rfl rfl (StepS.cmp rfl rfl rfl).q ?_
      cases hj13
      refine TQ.s rfl rfl rfl (StepS.pickT rfl hb11 rfl).q ?_
      exact TQ.up1 13 0 rfl rfl rfl rfl
    · replace hj13 := cond_f hb11 hj13
      cases hj13
      refine TQ.skip rfl rfl rfl (skipF hb11) rfl rfl ?_
      refine TQ.skip rfl rfl rfl (skipF hb11) rfl rfl ?_
      refine TQ.skip rfl rfl rfl (skipF hb11) rfl rfl ?_
      refine TQ.skip rfl rfl rfl (skipF hb11) rfl rfl ?_
      refine TQ.skip rfl rfl rfl (skipF hb11) rfl rfl ?_
      refine TQ.skip rfl rfl rfl (skipF hb11) rfl rfl ?_
      refine TQ.skip rfl rfl rfl (skipF hb11) rfl rfl ?_
      refine TQ.skip rfl rfl rfl (skipF hb11) rfl rfl ?_
      refine TQ.skip rfl rfl rfl (skipF hb11) rfl rfl ?_
      refine TQ.skip rfl rfl rfl (skipF hb11) rfl rfl ?_
      refine TQ.skip rfl rfl rfl (skipF hb11) rfl rfl ?_
      refine TQ.skip rfl rfl rfl (skipF hb11) rfl rfl ?_
      refine TQ.s rfl rfl rfl (StepS.pickF rfl hb11 rfl).q ?_
      exact TQ.up1 13 0 rfl rfl rfl rfl
  refine TQ.code ?_
  refine TC.cond rfl (fun hc18 => ?_) (fun hc18 => ?_)
  · replace hm := cond_t hc18 hm
    refine TC.k ?_
    refine TC.region ?_
    refine TO.s rfl rfl rfl (StepS.move rfl) ?_
    refine TO.s rfl rfl rfl (StepS.nilc rfl) ?_
    refine TO.s rfl rfl rfl (StepS.ptrf rfl kfieldB_185_1_1_true) ?_
    obtain ⟨x19, hx20, hm⟩ := bind_some hm
    refine TO.stO (i := a1.toNat) (off := 1) (us := [I 2]) 1 (x19.1, 2, x19.2.2.1, x19.2.2.2) rfl rfl rfl ksizeB_3_1_true rfl rfl rfl (idx_spec hx20).2 rfl (by simp [Value.oneCell']) rfl ?_
    refine TO.code ?_
    refine TC.region_any (Bx b0_ 183 [h0_1, h0_2] :: OwnS 185 4 h0_1 (((a0.1.set a1.toNat (x5.1, x5.2.1, x5.2.2.1, (x5.2.2.2 ||| ((1#32) <<< k7)))).set a1.toNat (x19.1, 2, x19.2.2.1, x19.2.2.2)).map cTiiiiu32) :: L) 15 16 kfollows_mixedOrders_true rfl ?_
    refine TA.takeW 0 rfl rfl rfl rfl (StepS.move rfl) (by kernel_rfl) (by kernel_rfl) (by kernel_rfl) rfl (.inr (fun _ s => Sat.by [1, 1] 2 1 (by kernel_rfl) s)) ?_
    refine TA.takeW 1 rfl rfl rfl rfl (StepS.move rfl) (by kernel_rfl) (by kernel_rfl) (by kernel_rfl) rfl (.inr (fun _ s => Sat.by [1, 1] 2 1 (by kernel_rfl) s)) ?_
    refine TA.takeW 2 rfl rfl rfl rfl (StepS.nilc rfl) (by kernel_rfl) (by kernel_rfl) (by kernel_rfl) rfl (.inr (fun _ s => Sat.by [1, 1] 2 1 (by kernel_rfl) s)) ?_
    refine TA.takeW 3 rfl rfl rfl rfl (StepS.fld rfl kfieldB_183_1_1_true) (by kernel_rfl) (by kernel_rfl) (by kernel_rfl) rfl (.inr (fun _ s => Sat.by [1, 1] 2 1 (by kernel_rfl) s)) ?_
    refine TA.take 4 rfl rfl rfl rfl (StepS.ldB rfl (Ent.at 0 rfl) kscalB_85_true rfl) (by kernel_rfl) (by kernel_rfl) (by kernel_rfl) (by kernel_rfl) (by kernel_rfl) (fun _ s => Sat.by [1, 1] 2 1 (by kernel_rfl) s) ?_
    refine TA.takeW 5 rfl rfl rfl rfl (StepS.move rfl) (by kernel_rfl) (by kernel_rfl) (by kernel_rfl) rfl (.inr (fun _ s => Sat.by [1, 1] 2 1 (by kernel_rfl) s)) ?_
    refine TA.takeW 6 rfl rfl rfl rfl (StepS.nilc rfl) (by kernel_rfl) (by kernel_rfl) (by kernel_rfl) rfl (.inr (fun _ s => Sat.by [1, 1] 2 1 (by kernel_rfl) s)) ?_
    refine TA.takeW 7 rfl rfl rfl rfl (StepS.ptrf rfl kfieldB_185_0_0_true) (by kernel_rfl) (by kernel_rfl) (by kernel_rfl) rfl (.inr (fun _ s => Sat.by [1, 1] 2 1 (by kernel_rfl) s)) ?_
    obtain ⟨xq21_8_1, hxq21_8_2, hm⟩ := bind_some hm
    refine TA.take 8 rfl rfl rfl rfl (StepS.ld1 rfl (OwnS.rd (Ent.at 1 rfl)) kscalB_3_true rfl (idxm hxq21_8_2) rfl) (by kernel_rfl) (by kernel_rfl) (by kernel_rfl) (by kernel_rfl) (by kernel_rfl) (fun _ s => Sat.by [1, 1] 2 1 (by kernel_rfl) s) ?_
    refine TA.takeW 9 rfl rfl rfl rfl (StepS.move rfl) (by kernel_rfl) (by kernel_rfl) (by kernel_rfl) rfl (.inr (fun _ s => Sat.by [1, 1] 2 1 (by kernel_rfl) s)) ?_
    refine TA.takeW 10 rfl rfl rfl rfl (StepS.build (cs := [I xq21_8_1.1, I a1]) rfl (by kernel_rfl)) (by kernel_rfl) (by kernel_rfl) (by kernel_rfl) rfl (.inr (fun _ s => Sat.by [1, 1] 2 1 (by kernel_rfl) s)) ?_
    refine TA.all1 (i := 11) (by kernel_rfl) ?_
    refine TB.of rfl ?_
    refine TO.litS (f := cTii) ([(xq21_8_1.1, a1)] : List (Int × Int)) kelemB_85_114_2_16_true kinfo_114_bind_zero_some_agg_I_0_I_0 rfl rfl (fun _ => rfl) rfl rfl (by kernel_rfl) rfl fun vq21_11_1 => ?_
    refine TA.back (.inr (fun _ s => Sat.by [2, 2] 2 2 (by kernel_rfl) s)) ?_
    refine TA.asL (L' := (OwnS 114 2 vq21_11_1 (([(xq21_8_1.1, a1)] : List (Int × Int)).map cTii) :: Bx b0_ 183 [h0_1, h0_2] :: OwnS 185 4 h0_1 (((a0.1.set a1.toNat (x5.1, x5.2.1, x5.2.2.1, (x5.2.2.2 ||| ((1#32) <<< k7)))).set a1.toNat (x19.1, 2, x19.2.2.1, x19.2.2.2)).map cTiiiiu32) :: OwnS 114 2 h0_2 (a0.2.map cTii) :: L)) (listed' := #[true, true, true, true, true, true, true, true, true, true, true, true, false, false, false, false]) (by kernel_rfl) (by kernel_rfl) ?_
    refine TA.all1 (i := 12) (by kernel_rfl) ?_
    refine TB.of rfl ?_
    obtain ⟨yq21_12_1, hkq21_12_2, hm⟩ := bind_some hm
    refine TO.app (k := 3) (f := cTii) kelemB_85_114_2_16_true (by decide) rfl rfl rfl (OwnS.rd (Ent.at 0 rfl)) hkq21_12_2 (fun x c hc => by simp [Value.oneCell'] at hc ⊢; first | (obtain rfl := hc; rfl) | (rcases hc with rfl | rfl <;> rfl)) rfl rfl fun vq21_12_3 => ?_
    refine TA.back (.inr (fun _ s => Sat.by [2, 2] 2 2 (by kernel_rfl) s)) ?_
    refine TA.asL (L' := (OwnS 114 2 vq21_11_1 (([(xq21_8_1.1, a1)] : List (Int × Int)).map cTii) :: Bx b0_ 183 [h0_1, h0_2] :: OwnS 185 4 h0_1 (((a0.1.set a1.toNat (x5.1, x5.2.1, x5.2.2.1, (x5.2.2.2 ||| ((1#32) <<< k7)))).set a1.toNat (x19.1, 2, x19.2.2.1, x19.2.2.2)).map cTiiiiu32) :: OwnS 114 2 vq21_12_3 (yq21_12_1.map cTii) :: L)) (listed' := #[true, true, true, true, true, true, true, true, true, true, true, true, true, false, false, false]) (by kernel_rfl) (by kernel_rfl) ?_
    refine TA.takeW 13 rfl rfl rfl rfl (StepS.nilc rfl) (by kernel_rfl) (by kernel_rfl) (by kernel_rfl) rfl (.inr (fun _ s => Sat.by [2, 2] 2 2 (by kernel_rfl) s)) ?_
    refine TA.takeW 14 rfl rfl rfl rfl (StepS.fld rfl kfieldB_183_1_1_true) (by kernel_rfl) (by kernel_rfl) (by kernel_rfl) rfl (.inr (fun _ s => Sat.by [2, 2] 2 2 (by kernel_rfl) s)) ?_
    refine TA.all1 (i := 15) (by kernel_rfl) ?_
    refine TB.of rfl ?_
    refine TO.pure (fun _ s => Rd.one (OwnS.rd (Ent.at 3 rfl)) s) fun ocq21_15_1 => ?_
    refine TO.stB (us := [vq21_12_3]) 1 [h0_1, vq21_12_3] rfl rfl rfl ksizeB_85_1_true ocq21_15_1.2 rfl rfl (by intro u hu; simp only [List.mem_cons, List.not_mem_nil, or_false] at hu; rcases hu with rfl <;> first | exact ocq21_15_1.1 | rfl) rfl ?_
    refine TA.back (.inl (by kernel_rfl)) ?_
    refine TA.asL (L' := (OwnS 114 2 vq21_11_1 (([(xq21_8_1.1, a1)] : List (Int × Int)).map cTii) :: Bx b0_ 183 [h0_1, vq21_12_3] :: OwnS 185 4 h0_1 (((a0.1.set a1.toNat (x5.1, x5.2.1, x5.2.2.1, (x5.2.2.2 ||| ((1#32) <<< k7)))).set a1.toNat (x19.1, 2, x19.2.2.1, x19.2.2.2)).map cTiiiiu32) :: OwnS 114 2 vq21_12_3 (yq21_12_1.map cTii) :: L)) (listed' := #[true, true, true, true, true, true, true, true, true, true, true, true, true, true, true, true]) (by kernel_rfl) (by kernel_rfl) ?_
    cases hm
    refine TA.nil (by kernel_rfl) fun a w e s => ?_
    refine FRet.mk0 (P := Try.prog) (fn := Try.f136) e rfl ?_
    refine ⟨_, _, rfl, ⟨(vq21_12_3), rfl, rfl⟩, ?_⟩
    refine s.mono fun _ s => ?_
    replace s := Sat.front 3 rfl s
    replace s := Sat.front 3 rfl s
    replace s := Sat.front 3 rfl s
    replace s := Sat.erase 3 s
    exact s
  · replace hm := cond_f hc18 hm
    cases hm
    refine TC.skip fun a w e s => ?_
    refine FRet.mk0 (P := Try.prog) (fn := Try.f136) e rfl ?_
    refine ⟨_, _, rfl, ⟨(h0_2), rfl, rfl⟩, ?_⟩
    refine s.mono fun _ s => ?_
    replace s := Sat.front 2 rfl s
    replace s := Sat.front 2 rfl s
    replace s := Sat.front 2 rfl s
    exact s

set_option maxRecDepth 100000 in
theorem C108 {B : World} {L : List HP} {a0 : (List (Int × Int × Int × BitVec 32)) × List (Int × Int)} {a1 : Int} {b0_ : Nat} {h0_1 : Value} {h0_2 : Value} {r0 : Int} {s0 : (List (Int × Int × Int × BitVec 32)) × List (Int × Int)} (hm : F108 a0 a1 = some (r0, s0)) {w : World} (st : St B (Bx b0_ 183 [h0_1, h0_2] :: OwnS 185 4 h0_1 (a0.1.map cTiiiiu32) :: OwnS 114 2 h0_2 (a0.2.map cTii) :: L) w) : Calls Try.prog 108 #[.pointer (some ⟨b0_, 0, none⟩), I a1] w (fun e w' => ∃ v M, e = .returned v ∧ (∃ (qv1 : Value), v = I r0 ∧ M = (Bx b0_ 183 [h0_1, qv1] :: OwnS 185 4 h0_1 (s0.1.map cTiiiiu32) :: OwnS 114 2 qv1 (s0.2.map cTii) :: L)) ∧ St B M w') := by
  refine calls_of (N := 35) (L := (Bx b0_ 183 [h0_1, h0_2] :: OwnS 185 4 h0_1 (a0.1.map cTiiiiu32) :: OwnS 114 2 h0_2 (a0.2.map cTii) :: L)) (args := [.pointer (some ⟨b0_, 0, none⟩), I a1]) Try.func108 rfl rfl rfl ?_ st
  dsimp only [F108] at hm
  refine TC.k ?_
  refine TC.region ?_
  refine TO.s rfl rfl rfl (StepS.assign rfl) ?_
  refine TO.code ?_
  refine TC.k ?_
  refine TC.k ?_
  refine TC.region ?_
  refine TO.s rfl rfl rfl (StepS.move rfl) ?_
  refine TO.s rfl rfl rfl (StepS.nilc rfl) ?_
  refine TO.s rfl rfl rfl (StepS.fld rfl kfieldB_183_0_0_true) ?_
  refine TO.s rfl rfl rfl (StepS.ldB rfl (Ent.at 0 rfl) kscalB_181_true rfl) ?_
  refine TO.s rfl rfl rfl (StepS.move rfl) ?_
  obtain ⟨x5, hx6, hm⟩ := bind_some hm
  refine TO.s rfl rfl rfl (StepS.idx rfl rfl (OwnS.rd (Ent.at 1 rfl)) ksliceB_181_185_4_true (idx_spec hx6).1 (idxm_lt hx6)) ?_
  refine TO.s rfl rfl rfl (StepS.ptrf rfl kfieldB_185_1_1_true) ?_
  refine TO.s rfl rfl rfl (StepS.ld1 rfl (OwnS.rd (Ent.at 1 rfl)) kscalB_3_true rfl (idxm hx6) rfl) ?_
  refine TO.s rfl rfl rfl (StepS.cmp rfl rfl rfl) ?_
  refine TO.code ?_
  refine TC.cond rfl (fun hc7 => ?_) (fun hc7 => ?_)
  · replace hm := cond_t hc7 hm
    refine TC.k ?_
    refine TC.region ?_
    refine TO.s rfl rfl rfl (StepS.assign rfl) ?_
    refine TO.code ?_
    cases hm
    refine TC.ret fun a w e s => ?_
    refine FRet.mk1 (P := Try.prog) (fn := Try.f108) (t := 4) e rfl rfl ?_
    refine ⟨_, _, rfl, ⟨(h0_2), rfl, rfl⟩, ?_⟩
    refine s.mono fun _ s => ?_
    replace s := Sat.front 2 rfl s
    replace s := Sat.front 2 rfl s
    replace s := Sat.front 2 rfl s
    exact s
  · replace hm := cond_f hc7 hm
    refine TC.skipk ?_
    refine TC.k ?_
    refine TC.region_tail 17 kfollows_mixedOrders_true (by kernel_rfl) ?_
    refine TS.s rfl rfl rfl (StepS.move rfl) ?_
    refine TS.s rfl rfl rfl (StepS.nilc rfl) ?_
    refine TS.s rfl rfl rfl (StepS.fld rfl kfieldB_183_0_0_true) ?_
    refine TS.s rfl rfl rfl (StepS.ldB rfl (Ent.at 0 rfl) kscalB_181_true rfl) ?_
    refine TS.s rfl rfl rfl (StepS.move rfl) ?_
    refine TS.s rfl rfl rfl (StepS.move rfl) ?_
    refine TS.s rfl rfl rfl (StepS.nilc rfl) ?_
    refine TS.s rfl rfl rfl (StepS.fld rfl kfieldB_183_0_0_true) ?_
    refine TS.s rfl rfl rfl (StepS.ldB rfl (Ent.at 0 rfl) kscalB_181_true rfl) ?_
    refine TS.s rfl rfl rfl (StepS.move rfl) ?_
    obtain ⟨x8, hx9, hm⟩ := bind_some hm
    refine TS.s rfl rfl rfl (StepS.idx rfl rfl (OwnS.rd (Ent.at 1 rfl)) ksliceB_181_185_4_true (idx_spec hx9).1 (idxm_lt hx9)) ?_
    refine TS.s rfl rfl rfl (StepS.ptrf rfl kfieldB_185_0_0_true) ?_
    refine TS.s rfl rfl rfl (StepS.ld1 rfl (OwnS.rd (Ent.at 1 rfl)) kscalB_3_true rfl (idxm hx9) rfl) ?_
    refine TS.s rfl rfl rfl (StepS.ari rfl rfl rfl) ?_
    refine TS.s rfl rfl rfl (StepS.move rfl) ?_
    refine TS.s rfl rfl rfl (StepS.build (cs := [I (w64 (x8.1 + 1)), I 1, I a1, U 0]) rfl (by kernel_rfl)) ?_
    obtain ⟨x10, hx11, hm⟩ := bind_some hm
    refine TS.s rfl rfl rfl (StepS.idx rfl rfl (OwnS.rd (Ent.at 1 rfl)) ksliceB_181_185_4_true (idx_spec hx11).1 (idxm_lt hx11)) ?_
    refine TS.nil ?_
    refine TO.at ?_
    refine TO.stO (i := a1.toNat) (off := 0) (us := [I (w64 (x8.1 + 1)), I 1, I a1, U 0]) 1 (w64 (x8.1 + 1), 1, a1, 0) rfl rfl rfl ksizeB_185_4_true rfl rfl rfl (idx_spec hx11).2 rfl (by simp [Value.oneCell']) rfl ?_
    refine TO.code ?_
    refine TC.k ?_
    refine TC.region ?_
    refine TO.s rfl rfl rfl (StepS.move rfl) ?_
    refine TO.s rfl rfl rfl (StepS.move rfl) ?_
    refine TO.s rfl rfl rfl (StepS.move rfl) ?_
    refine TO.ghost (fun _ s => Sat.front 2 rfl s) ?_
    refine TO.ghost (fun _ s => Sat.front 2 rfl s) ?_
    refine TO.ghost (fun _ s => Sat.front 2 rfl s) ?_
    obtain ⟨r12, hc13, hm⟩ := bind_some hm
    refine TO.callO kcallB_136_true rfl rfl rfl (fun _ st => C136 (a0 := (a0.1.set a1.toNat (w64 (x8.1 + 1), 1, a1, 0), a0.2))  hc13 st) ?_
    rintro _ _ ⟨v15, rfl, rfl⟩
    refine TO.code ?_
    refine TC.k ?_
    refine TC.region ?_
    refine TO.s rfl rfl rfl (StepS.assign rfl) ?_
    refine TO.code ?_
    cases hm
    refine TC.ret fun a w e s => ?_
    refine FRet.mk1 (P := Try.prog) (fn := Try.f108) (t := 4) e rfl rfl ?_
    refine ⟨_, _, rfl, ⟨(v15), rfl, rfl⟩, ?_⟩
    refine s.mono fun _ s => ?_
    replace s := Sat.front 2 rfl s
    replace s := Sat.front 2 rfl s
    replace s := Sat.front 2 rfl s
    exact s

set_option maxRecDepth 100000 in
theorem C137 {B : World} {L : List HP} {a0 : List (Int × Int × Int × BitVec 32)} {a1 : Int} {a2 : Int} {b0_ : Nat} {u0_1 : Value} {h0_1 : Value} {s0 : List (Int × Int × Int × BitVec 32)} (hm : F137 a0 a1 a2 = some s0) {w : World} (st : St B (Bx b0_ 183 [h0_1, u0_1] :: OwnS 185 4 h0_1 (a0.map cTiiiiu32) :: L) w) : Calls Try.prog 137 #[.pointer (some ⟨b0_, 0, none⟩), I a1, I a2] w (fun e w' => ∃ v M, e = .returned v ∧ (v = .tuple #[] ∧ M = (Bx b0_ 183 [h0_1, u0_1] :: OwnS 185 4 h0_1 (s0.map cTiiiiu32) :: L)) ∧ St B M w') := by
  refine calls_of (N := 24) (L := (Bx b0_ 183 [h0_1, u0_1] :: OwnS 185 4 h0_1 (a0.map cTiiiiu32) :: L)) (args := [.pointer (some ⟨b0_, 0, none⟩), I a1, I a2]) Try.func137 rfl rfl rfl ?_ st
  dsimp only [F137] at hm
  refine TC.k ?_
  refine TC.region ?_
  refine TO.s rfl rfl rfl (StepS.move rfl) ?_
  refine TO.s rfl rfl rfl (StepS.move rfl) ?_
  refine TO.s rfl rfl rfl (StepS.nilc rfl) ?_
  refine TO.s rfl rfl rfl (StepS.fld rfl kfieldB_183_0_0_true) ?_
  refine TO.s rfl rfl rfl (StepS.ldB rfl (Ent.at 0 rfl) kscalB_181_true rfl) ?_
  refine TO.s rfl rfl rfl (StepS.move rfl) ?_
  obtain ⟨x3, hx4, hm⟩ := bind_some hm
  refine TO.s rfl rfl rfl (StepS.idx rfl rfl (OwnS.rd (Ent.at 1 rfl)) ksliceB_181_185_4_true (idx_spec hx4).1 (idxm_lt hx4)) ?_
  refine TO.s rfl rfl rfl (StepS.ptrf rfl kfieldB_185_0_0_true) ?_
  refine TO.s rfl rfl rfl (StepS.ld1 rfl (OwnS.rd (Ent.at 1 rfl)) kscalB_3_true rfl (idxm hx4) rfl) ?_
  refine TO.s rfl rfl rfl (StepS.cmp rfl rfl rfl) ?_
  refine TO.code ?_
  refine TC.cond rfl (fun hc5 => ?_) (fun hc5 => ?_)
  · replace hm := cond_t hc5 hm
    refine TC.region ?_
    refine TO.s rfl rfl rfl (StepS.move rfl) ?_
    refine TO.s rfl rfl rfl (StepS.nilc rfl) ?_
    refine TO.s rfl rfl rfl (StepS.fld rfl kfieldB_183_0_0_true) ?_
    refine TO.s rfl rfl rfl (StepS.ldB rfl (Ent.at 0 rfl) kscalB_181_true rfl) ?_
    refine TO.s rfl rfl rfl (StepS.move rfl) ?_
    refine TO.s rfl rfl rfl (StepS.move rfl) ?_
    refine TO.s rfl rfl rfl (StepS.build (cs := [I a2, I 0, I (-1), U 0]) rfl (by kernel_rfl)) ?_
    obtain ⟨x6, hx7, hm⟩ := bind_some hm
    refine TO.s rfl rfl rfl (StepS.idx rfl rfl (OwnS.rd (Ent.at 1 rfl)) ksliceB_181_185_4_true (idx_spec hx7).1 (idxm_lt hx7)) ?_
    refine TO.stO (i := a1.toNat) (off := 0) (us := [I a2, I 0, I (-1), U 0]) 1 (a2, 0, (-1), 0) rfl rfl rfl ksizeB_185_4_true rfl rfl rfl (idx_spec hx7).2 rfl (by simp [Value.oneCell']) rfl ?_
    cases hm
    refine TO.nil fun a w e s => ?_
    refine FRet.mk0 (P := Try.prog) (fn := Try.f137) e rfl ?_
    refine ⟨_, _, rfl, ⟨rfl, rfl⟩, ?_⟩
    refine s.mono fun _ s => ?_
    replace s := Sat.front 1 rfl s
    replace s := Sat.front 1 rfl s
    exact s
  · replace hm := cond_f hc5 hm
    cases hm
    refine TC.skip fun a w e s => ?_
    refine FRet.mk0 (P := Try.prog) (fn := Try.f137) e rfl ?_
    refine ⟨_, _, rfl, ⟨rfl, rfl⟩, ?_⟩
    refine s.mono fun _ s => ?_
    replace s := Sat.front 1 rfl s
    replace s := Sat.front 1 rfl s
    exact s

set_option maxRecDepth 100000 in
theorem C109 {B : World} {L : List HP} {a0 : (List (Int × Int × Int × BitVec 32)) × List (Int × Int)} {a1 : Int} {a2 : Int} {a3 : Bool} {b0_ : Nat} {h0_1 : Value} {h0_2 : Value} {r0 : Int} {s0 : (List (Int × Int × Int × BitVec 32)) × List (Int × Int)} (hm : F109 a0 a1 a2 a3 = some (r0, s0)) {w : World} (st : St B (Bx b0_ 183 [h0_1, h0_2] :: OwnS 185 4 h0_1 (a0.1.map cTiiiiu32) :: OwnS 114 2 h0_2 (a0.2.map cTii) :: L) w) : Calls Try.prog 109 #[.pointer (some ⟨b0_, 0, none⟩), I a1, I a2, .bool a3] w (fun e w' => ∃ v M, e = .returned v ∧ (∃ (qv1 : Value), v = I r0 ∧ M = (Bx b0_ 183 [h0_1, qv1] :: OwnS 185 4 h0_1 (s0.1.map cTiiiiu32) :: OwnS 114 2 qv1 (s0.2.map cTii) :: L)) ∧ St B M w') := by
  refine calls_of (N := 83) (L := (Bx b0_ 183 [h0_1, h0_2] :: OwnS 185 4 h0_1 (a0.1.map cTiiiiu32) :: OwnS 114 2 h0_2 (a0.2.map cTii) :: L)) (args := [.pointer (some ⟨b0_, 0, none⟩), I a1, I a2, .bool a3]) Try.func109 rfl rfl rfl ?_ st
  dsimp only [F109] at hm
  refine TC.k ?_
  refine TC.region ?_
  refine TO.s rfl rfl rfl (StepS.assign rfl) ?_
  refine TO.code ?_
  refine TC.k ?_
  refine TC.k ?_
  refine TC.region ?_
  refine TO.s rfl rfl rfl (StepS.move rfl) ?_
  refine TO.s rfl rfl rfl (StepS.nilc rfl) ?_
  refine TO.s rfl rfl rfl (StepS.fld rfl kfieldB_183_0_0_true) ?_
  refine TO.s rfl rfl rfl (StepS.ldB rfl (Ent.at 0 rfl) kscalB_181_true rfl) ?_
  refine TO.s rfl rfl rfl (StepS.move rfl) ?_
  obtain ⟨x5, hx6, hm⟩ := bind_some hm
  refine TO.s rfl rfl rfl (StepS.idx rfl rfl (OwnS.rd (Ent.at 1 rfl)) ksliceB_181_185_4_true (idx_spec hx6).1 (idxm_lt hx6)) ?_
  refine TO.s rfl rfl rfl (StepS.ptrf rfl kfieldB_185_1_1_true) ?_
  refine TO.s rfl rfl rfl (StepS.ld1 rfl (OwnS.rd (Ent.at 1 rfl)) kscalB_3_true rfl (idxm hx6) rfl) ?_
  refine TO.s rfl rfl rfl (StepS.cmp rfl rfl rfl) ?_
  refine TO.code ?_
  refine TC.cond rfl (fun hc7 => ?_) (fun hc7 => ?_)
  · replace hm := cond_t hc7 hm
    refine TC.k ?_
    refine TC.region ?_
    refine TO.s rfl rfl rfl (StepS.assign rfl) ?_
    refine TO.code ?_
    cases hm
    refine TC.ret fun a w e s => ?_
    refine FRet.mk1 (P := Try.prog) (fn := Try.f109) (t := 8) e rfl rfl ?_
    refine ⟨_, _, rfl, ⟨(h0_2), rfl, rfl⟩, ?_⟩
    refine s.mono fun _ s => ?_
    replace s := Sat.front 2 rfl s
    replace s := Sat.front 2 rfl s
    replace s := Sat.front 2 rfl s
    exact s
  · replace hm := cond_f hc7 hm
    refine TC.skipk ?_
    refine TC.k ?_
    refine TC.region ?_
    refine TO.s rfl rfl rfl (StepS.move rfl) ?_
    refine TO.s rfl rfl rfl (StepS.move rfl) ?_
    refine TO.s rfl rfl rfl (StepS.move rfl) ?_
    refine TO.s rfl rfl rfl (StepS.nilc rfl) ?_
    refine TO.s rfl rfl rfl (StepS.fld rfl kfieldB_183_0_0_true) ?_
    refine TO.s rfl rfl rfl (StepS.ldB rfl (Ent.at 0 rfl) kscalB_181_true rfl) ?_
    refine TO.s rfl rfl rfl (StepS.move rfl) ?_
    obtain ⟨x8, hx9, hm⟩ := bind_some hm
    refine TO.s rfl rfl rfl (StepS.idx rfl rfl (OwnS.rd (Ent.at 1 rfl)) ksliceB_181_185_4_true (idx_spec hx9).1 (idxm_lt hx9)) ?_
    refine TO.s rfl rfl rfl (StepS.ptrf rfl kfieldB_185_0_0_true) ?_
    refine TO.s rfl rfl rfl (StepS.ld1 rfl (OwnS.rd (Ent.at 1 rfl)) kscalB_3_true rfl (idxm hx9) rfl) ?_
    refine TO.ghost (fun _ s => Sat.front 1 rfl s) ?_
    refine TO.ghost (fun _ s => Sat.front 1 rfl s) ?_
    obtain ⟨r10, hc11, hm⟩ := bind_some hm
    refine TO.callO kcallB_137_true rfl rfl rfl (fun _ st => C137 (a0 := a0.1)  hc11 st) ?_
    rintro _ _ ⟨rfl, rfl⟩
    refine TO.code ?_
    refine TC.k ?_
    refine TC.region ?_
    refine TO.s rfl rfl rfl (StepS.move rfl) ?_
    refine TO.s rfl rfl rfl (StepS.nilc rfl) ?_
    refine TO.s rfl rfl rfl (StepS.fld rfl kfieldB_183_0_0_true) ?_
    refine TO.s rfl rfl rfl (StepS.ldB rfl (Ent.at 0 rfl) kscalB_181_true rfl) ?_
    refine TO.s rfl rfl rfl (StepS.move rfl) ?_
    obtain ⟨x13, hx14, hm⟩ := bind_some hm
    refine TO.s rfl rfl rfl (StepS.idx rfl rfl (OwnS.rd (Ent.at 1 rfl)) ksliceB_181_185_4_true (idx_spec hx14).1 (idxm_lt hx14)) ?_
    refine TO.s rfl rfl rfl (StepS.assign rfl) ?_
    refine TO.code ?_
    refine TC.k ?_
    refine TC.block ?_
    refine TC.k ?_
    refine TC.region_still kfollows_mixedOrders_true (by kernel_rfl) ?_
    refine TS.s rfl rfl rfl (StepS.move rfl) ?_
    refine TS.s rfl rfl rfl (StepS.nilc rfl) ?_
    refine TS.s rfl rfl rfl (StepS.ptrf rfl kfieldB_185_0_0_true) ?_
    refine TS.s rfl rfl rfl (StepS.ld1 rfl (OwnS.rd (Ent.at 1 rfl)) kscalB_3_true rfl (idxm hx14) rfl) ?_
    refine TS.s rfl rfl rfl (StepS.move rfl) ?_
    refine TS.s rfl rfl rfl (StepS.nilc rfl) ?_
    refine TS.s rfl rfl rfl (StepS.fld rfl kfieldB_183_0_0_true) ?_
    refine TS.s rfl rfl rfl (StepS.ldB rfl (Ent.at 0 rfl) kscalB_181_true rfl) ?_
    refine TS.s rfl rfl rfl (StepS.move rfl) ?_
    obtain ⟨x15, hx16, hm⟩ := bind_some hm
    refine TS.s rfl rfl rfl (StepS.idx rfl rfl (OwnS.rd (Ent.at 1 rfl)) ksliceB_181_185_4_true (idx_spec hx16).1 (idxm_lt hx16)) ?_
    refine TS.s rfl rfl rfl (StepS.ptrf rfl kfieldB_185_0_0_true) ?_
    refine TS.s rfl rfl rfl (StepS.ld1 rfl (OwnS.rd (Ent.at 1 rfl)) kscalB_3_true rfl (idxm hx16) rfl) ?_
    refine TS.s rfl rfl rfl (StepS.cmp rfl rfl rfl) ?_
    refine TS.s rfl rfl rfl (StepS.assign rfl) ?_
    refine TS.code ?_
    refine TC.cond rfl (fun hc17 => ?_) (fun hc17 => ?_)
    · replace hm := cond_t hc17 hm
      refine TC.k ?_
      refine TC.region ?_
      refine TO.s rfl rfl rfl (StepS.move rfl) ?_
      refine TO.s rfl rfl rfl (StepS.move rfl) ?_
      refine TO.s rfl rfl rfl (StepS.move rfl) ?_
      refine TO.s rfl rfl rfl (StepS.nilc rfl) ?_
      refine TO.s rfl rfl rfl (StepS.ptrf rfl kfieldB_185_0_0_true) ?_
      refine TO.s rfl rfl rfl (StepS.ld1 rfl (OwnS.rd (Ent.at 1 rfl)) kscalB_3_true rfl (idxm hx14) rfl) ?_
      refine TO.ghost (fun _ s => Sat.front 1 rfl s) ?_
      refine TO.ghost (fun _ s => Sat.front 1 rfl s) ?_
      obtain ⟨r18, hc19, hm⟩ := bind_some hm
      refine TO.callO kcallB_137_true rfl rfl rfl (fun _ st => C137 (a0 := r10)  hc19 st) ?_
      rintro _ _ ⟨rfl, rfl⟩
      refine TO.code ?_
      refine TC.k ?_
      refine TC.region ?_
      refine TO.s rfl rfl rfl (StepS.assign rfl) ?_
      refine TO.code ?_
      cases hm
      refine TC.ret fun a w e s => ?_
      refine FRet.mk1 (P := Try.prog) (fn := Try.f109) (t := 8) e rfl rfl ?_
      refine ⟨_, _, rfl, ⟨(h0_2), rfl, rfl⟩, ?_⟩
      refine s.mono fun _ s => ?_
      replace s := Sat.front 2 rfl s
      replace s := Sat.front 2 rfl s
      replace s := Sat.front 2 rfl s
      exact s
    · replace hm := cond_f hc17 hm
      refine TC.k ?_
      refine TC.region ?_
      refine TO.s rfl rfl rfl (StepS.move rfl) ?_
      refine TO.s rfl rfl rfl (StepS.nilc rfl) ?_
      refine TO.s rfl rfl rfl (StepS.ptrf rfl kfieldB_185_2_2_true) ?_
      refine TO.s rfl rfl rfl (StepS.ld1 rfl (OwnS.rd (Ent.at 1 rfl)) kscalB_3_true rfl (idxm hx14) rfl) ?_
      refine TO.s rfl rfl rfl (StepS.cmp rfl rfl rfl) ?_
      refine TO.s rfl rfl rfl (StepS.move rfl) ?_
      refine TO.mid1 7 70 (.bool ((decide (x13.2.2.1 ≥ 0)) && (x13.2.2.1 != a2))) ?_ ?_
      · refine bcase ((decide (x13.2.2.1 ≥ 0))) (fun hb21 => ?_) (fun hb21 => ?_)
        · refine TO.sw rfl rfl rfl hb21 rfl rfl (StepS.move rfl) ?_
          refine TO.sw rfl rfl rfl hb21 rfl rfl (StepS.nilc rfl) ?_
          refine TO.sw rfl rfl rfl hb21 rfl rfl (StepS.ptrf rfl kfieldB_185_2_2_true) ?_
          refine TO.sw rfl rfl rfl hb21 rfl rfl (StepS.ld1 rfl (OwnS.rd (Ent.at 1 rfl)) kscalB_3_true rfl (idxm hx14) rfl) ?_
          refine TO.sw rfl rfl rfl hb21 rfl rfl (StepS.move rfl) ?_
          refine TO.sw rfl rfl rfl hb21 rfl rfl (StepS.cmp rfl rfl rfl) ?_
          refine TO.s rfl rfl rfl (StepS.pickT rfl hb21 rfl) ?_
          exact TO.up1 7 0 rfl rfl (by rw [hb21]; rfl) rfl
        · refine TO.skip rfl rfl rfl (skipF hb21) rfl rfl ?_
          refine TO.skip rfl rfl rfl (skipF hb21) rfl rfl ?_
          refine TO.skip rfl rfl rfl (skipF hb21) rfl rfl ?_
          refine TO.skip rfl rfl rfl (skipF hb21) rfl rfl ?_
          refine TO.skip rfl rfl rfl (skipF hb21) rfl rfl ?_
          refine TO.skip rfl rfl rfl (skipF hb21) rfl rfl ?_
          refine TO.s rfl rfl rfl (StepS.pickF rfl hb21 rfl) ?_
          exact TO.up1 7 0 rfl rfl (by rw [hb21]; rfl) rfl
      refine TO.s rfl rfl rfl (StepS.move rfl) ?_
      refine TO.mid1 3 74 (.bool (((decide (x13.2.2.1 ≥ 0)) && (x13.2.2.1 != a2)) || (!a3))) ?_ ?_
      · refine bcase (((decide (x13.2.2.1 ≥ 0)) && (x13.2.2.1 != a2))) (fun hb22 => ?_) (fun hb22 => ?_)
        · refine TO.skip rfl rfl rfl (skipT hb22) rfl rfl ?_
          refine TO.skip rfl rfl rfl (skipT hb22) rfl rfl ?_
          refine TO.s rfl rfl rfl (StepS.pickT rfl hb22 rfl) ?_
          exact TO.up1 3 0 rfl rfl (by rw [hb22]; rfl) rfl
        · refine TO.sw rfl rfl rfl hb22 rfl rfl (StepS.move rfl) ?_
          refine TO.sw rfl rfl rfl hb22 rfl rfl (StepS.not rfl) ?_
          refine TO.s rfl rfl rfl (StepS.pickF rfl hb22 rfl) ?_
          exact TO.up1 3 0 rfl rfl (by rw [hb22]; rfl) rfl
      refine TO.s rfl rfl rfl (StepS.assign rfl) ?_
      refine TO.code ?_
      refine TC.cond rfl (fun hc23 => ?_) (fun hc23 => ?_)
      · replace hm := cond_t hc23 hm
        refine TC.k ?_
        refine TC.region ?_
        refine TO.s rfl rfl rfl (StepS.assign rfl) ?_
        refine TO.code ?_
        cases hm
        refine TC.ret fun a w e s => ?_
        refine FRet.mk1 (P := Try.prog) (fn := Try.f109) (t := 8) e rfl rfl ?_
        refine ⟨_, _, rfl, ⟨(h0_2), rfl, rfl⟩, ?_⟩
        refine s.mono fun _ s => ?_
        replace s := Sat.front 2 rfl s
        replace s := Sat.front 2 rfl s
        replace s := Sat.front 2 rfl s
        exact s
      · replace hm := cond_f hc23 hm
        refine TC.skipk ?_
        refine TC.k ?_
        refine TC.region ?_
        refine TO.s rfl rfl rfl (StepS.move rfl) ?_
        refine TO.s rfl rfl rfl (StepS.move rfl) ?_
        refine TO.s rfl rfl rfl (StepS.nilc rfl) ?_
        refine TO.s rfl rfl rfl (StepS.ptrf rfl kfieldB_185_2_2_true) ?_
        refine TO.stO (i := a1.toNat) (off := 2) (us := [I a2]) 1 (x13.1, x13.2.1, a2, x13.2.2.2) rfl rfl rfl ksizeB_3_1_true rfl rfl rfl (idx_spec hx14).2 rfl (by simp [Value.oneCell']) rfl ?_
        refine TO.code ?_
        refine TC.k ?_
        refine TC.region ?_
        refine TO.s rfl rfl rfl (StepS.move rfl) ?_
        refine TO.s rfl rfl rfl (StepS.move rfl) ?_
        refine TO.s rfl rfl rfl (StepS.move rfl) ?_
        refine TO.ghost (fun _ s => Sat.front 2 rfl s) ?_
        refine TO.ghost (fun _ s => Sat.front 2 rfl s) ?_
        refine TO.ghost (fun _ s => Sat.front 2 rfl s) ?_
        obtain ⟨r24, hc25, hm⟩ := bind_some hm
        refine TO.callO kcallB_136_true rfl rfl rfl (fun _ st => C136 (a0 := (r10.set a1.toNat (x13.1, x13.2.1, a2, x13.2.2.2), a0.2))  hc25 st) ?_
        rintro _ _ ⟨v27, rfl, rfl⟩
        refine TO.code ?_
        refine TC.k ?_
        refine TC.region ?_
        refine TO.s rfl rfl rfl (StepS.assign rfl) ?_
        refine TO.code ?_
        cases hm
        refine TC.ret fun a w e s => ?_
        refine FRet.mk1 (P := Try.prog) (fn := Try.f109) (t := 8) e rfl rfl ?_
        refine ⟨_, _, rfl, ⟨(v27), rfl, rfl⟩, ?_⟩
        refine s.mono fun _ s => ?_
        replace s := Sat.front 2 rfl s
        replace s := Sat.front 2 rfl s
        replace s := Sat.front 2 rfl s
        exact s

set_option maxRecDepth 100000 in
theorem C110 {B : World} {L : List HP} {a0 : List (Int × Int × Int × BitVec 32)} {a1 : Int} {a2 : Int} {b0_ : Nat} {u0_1 : Value} {h0_1 : Value} {r0 : Int} {s0 : List (Int × Int × Int × BitVec 32)} (hm : F110 a0 a1 a2 = some (r0, s0)) {w : World} (st : St B (Bx b0_ 183 [h0_1, u0_1] :: OwnS 185 4 h0_1 (a0.map cTiiiiu32) :: L) w) : Calls Try.prog 110 #[.pointer (some ⟨b0_, 0, none⟩), I a1, I a2] w (fun e w' => ∃ v M, e = .returned v ∧ (v = I r0 ∧ M = (Bx b0_ 183 [h0_1, u0_1] :: OwnS 185 4 h0_1 (s0.map cTiiiiu32) :: L)) ∧ St B M w') := by
  refine calls_of (N := 62) (L := (Bx b0_ 183 [h0_1, u0_1] :: OwnS 185 4 h0_1 (a0.map cTiiiiu32) :: L)) (args := [.pointer (some ⟨b0_, 0, none⟩), I a1, I a2]) Try.func110 rfl rfl rfl ?_ st
  dsimp only [F110] at hm
  refine TC.k ?_
  refine TC.region ?_
  refine TO.s rfl rfl rfl (StepS.assign rfl) ?_
  refine TO.code ?_
  refine TC.k ?_
  refine TC.k ?_
  refine TC.region ?_
  refine TO.s rfl rfl rfl (StepS.move rfl) ?_
  refine TO.s rfl rfl rfl (StepS.nilc rfl) ?_
  refine TO.s rfl rfl rfl (StepS.fld rfl kfieldB_183_0_0_true) ?_
  refine TO.s rfl rfl rfl (StepS.ldB rfl (Ent.at 0 rfl) kscalB_181_true rfl) ?_
  refine TO.s rfl rfl rfl (StepS.move rfl) ?_
  obtain ⟨x3, hx4, hm⟩ := bind_some hm
  refine TO.s rfl rfl rfl (StepS.idx rfl rfl (OwnS.rd (Ent.at 1 rfl)) ksliceB_181_185_4_true (idx_spec hx4).1 (idxm_lt hx4)) ?_
  refine TO.s rfl rfl rfl (StepS.ptrf rfl kfieldB_185_1_1_true) ?_
  refine TO.s rfl rfl rfl (StepS.ld1 rfl (OwnS.rd (Ent.at 1 rfl)) kscalB_3_true rfl (idxm hx4) rfl) ?_
  refine TO.s rfl rfl rfl (StepS.cmp rfl rfl rfl) ?_
  refine TO.code ?_
  refine TC.cond rfl (fun hc5 => ?_) (fun hc5 => ?_)
  · replace hm := cond_t hc5 hm
    refine TC.k ?_
    refine TC.region ?_
    refine TO.s rfl rfl rfl (StepS.assign rfl) ?_
    refine TO.code ?_
    cases hm
    refine TC.ret fun a w e s => ?_
    refine FRet.mk1 (P := Try.prog) (fn := Try.f110) (t := 6) e rfl rfl ?_
    refine ⟨_, _, rfl, ⟨rfl, rfl⟩, ?_⟩
    refine s.mono fun _ s => ?_
    replace s := Sat.front 1 rfl s
    replace s := Sat.front 1 rfl s
    exact s
  · replace hm := cond_f hc5 hm
    refine TC.skipk ?_
    refine TC.k ?_
    refine TC.k ?_
    refine TC.region_still kfollows_mixedOrders_true (by kernel_rfl) ?_
    refine TS.s rfl rfl rfl (StepS.move rfl) ?_
    refine TS.s rfl rfl rfl (StepS.nilc rfl) ?_
    refine TS.s rfl rfl rfl (StepS.fld rfl kfieldB_183_0_0_true) ?_
    refine TS.s rfl rfl rfl (StepS.ldB rfl (Ent.at 0 rfl) kscalB_181_true rfl) ?_
    refine TS.s rfl rfl rfl (StepS.move rfl) ?_
    obtain ⟨x6, hx7, hm⟩ := bind_some hm
    refine TS.s rfl rfl rfl (StepS.idx rfl rfl (OwnS.rd (Ent.at 1 rfl)) ksliceB_181_185_4_true (idx_spec hx7).1 (idxm_lt hx7)) ?_
    refine TS.s rfl rfl rfl (StepS.ptrf rfl kfieldB_185_0_0_true) ?_
    refine TS.s rfl rfl rfl (StepS.ld1 rfl (OwnS.rd (Ent.at 1 rfl)) kscalB_3_true rfl (idxm hx7) rfl) ?_
    refine TS.s rfl rfl rfl (StepS.move rfl) ?_
    refine TS.s rfl rfl rfl (StepS.nilc rfl) ?_
    refine TS.s rfl rfl rfl (StepS.fld rfl kfieldB_183_0_0_true) ?_
    refine TS.s rfl rfl rfl (StepS.ldB rfl (Ent.at 0 rfl) kscalB_181_true rfl) ?_
    refine TS.s rfl rfl rfl (StepS.move rfl) ?_
    obtain ⟨x8, hx9, hm⟩ := bind_some hm
    refine TS.s rfl rfl rfl (StepS.idx rfl rfl (OwnS.rd (Ent.at 1 rfl)) ksliceB_181_185_4_true (idx_spec hx9).1 (idxm_lt hx9)) ?_
    refine TS.s rfl rfl rfl (StepS.ptrf rfl kfieldB_185_0_0_true) ?_
    refine TS.s rfl rfl rfl (StepS.ld1 rfl (OwnS.rd (Ent.at 1 rfl)) kscalB_3_true rfl (idxm hx9) rfl) ?_
    refine TS.s rfl rfl rfl (StepS.cmp rfl rfl rfl) ?_
    refine TS.code ?_
    refine TC.cond rfl (fun hc10 => ?_) (fun hc10 => ?_)
    · replace hm := cond_t hc10 hm
      refine TC.k ?_
      refine TC.region ?_
      refine TO.s rfl rfl rfl (StepS.move rfl) ?_
      refine TO.s rfl rfl rfl (StepS.move rfl) ?_
      refine TO.s rfl rfl rfl (StepS.move rfl) ?_
      refine TO.s rfl rfl rfl (StepS.nilc rfl) ?_
      refine TO.s rfl rfl rfl (StepS.fld rfl kfieldB_183_0_0_true) ?_
      refine TO.s rfl rfl rfl (StepS.ldB rfl (Ent.at 0 rfl) kscalB_181_true rfl) ?_
      refine TO.s rfl rfl rfl (StepS.move rfl) ?_
      obtain ⟨x11, hx12, hm⟩ := bind_some hm
      refine TO.s rfl rfl rfl (StepS.idx rfl rfl (OwnS.rd (Ent.at 1 rfl)) ksliceB_181_185_4_true (idx_spec hx12).1 (idxm_lt hx12)) ?_
      refine TO.s rfl rfl rfl (StepS.ptrf rfl kfieldB_185_0_0_true) ?_
      refine TO.s rfl rfl rfl (StepS.ld1 rfl (OwnS.rd (Ent.at 1 rfl)) kscalB_3_true rfl (idxm hx12) rfl) ?_
      refine TO.ghost (fun _ s => Sat.front 1 rfl s) ?_
      refine TO.ghost (fun _ s => Sat.front 1 rfl s) ?_
      obtain ⟨r13, hc14, hm⟩ := bind_some hm
      refine TO.callO kcallB_137_true rfl rfl rfl (fun _ st => C137 (a0 := a0)  hc14 st) ?_
      rintro _ _ ⟨rfl, rfl⟩
      refine TO.code ?_
      refine TC.k ?_
      refine TC.region ?_
      refine TO.s rfl rfl rfl (StepS.assign rfl) ?_
      refine TO.code ?_
      cases hm
      refine TC.ret fun a w e s => ?_
      refine FRet.mk1 (P := Try.prog) (fn := Try.f110) (t := 6) e rfl rfl ?_
      refine ⟨_, _, rfl, ⟨rfl, rfl⟩, ?_⟩
      refine s.mono fun _ s => ?_
      replace s := Sat.front 1 rfl s
      replace s := Sat.front 1 rfl s
      exact s
    · replace hm := cond_f hc10 hm
      refine TC.skipk ?_
      refine TC.k ?_
      refine TC.region ?_
      refine TO.s rfl rfl rfl (StepS.move rfl) ?_
      refine TO.s rfl rfl rfl (StepS.move rfl) ?_
      refine TO.s rfl rfl rfl (StepS.move rfl) ?_
      refine TO.s rfl rfl rfl (StepS.nilc rfl) ?_
      refine TO.s rfl rfl rfl (StepS.fld rfl kfieldB_183_0_0_true) ?_
      refine TO.s rfl rfl rfl (StepS.ldB rfl (Ent.at 0 rfl) kscalB_181_true rfl) ?_
      refine TO.s rfl rfl rfl (StepS.move rfl) ?_
      obtain ⟨x16, hx17, hm⟩ := bind_some hm
      refine TO.s rfl rfl rfl (StepS.idx rfl rfl (OwnS.rd (Ent.at 1 rfl)) ksliceB_181_185_4_true (idx_spec hx17).1 (idxm_lt hx17)) ?_
      refine TO.s rfl rfl rfl (StepS.ptrf rfl kfieldB_185_0_0_true) ?_
      refine TO.s rfl rfl rfl (StepS.ld1 rfl (OwnS.rd (Ent.at 1 rfl)) kscalB_3_true rfl (idxm hx17) rfl) ?_
      refine TO.ghost (fun _ s => Sat.front 1 rfl s) ?_
      refine TO.ghost (fun _ s => Sat.front 1 rfl s) ?_
      obtain ⟨r18, hc19, hm⟩ := bind_some hm
      refine TO.callO kcallB_137_true rfl rfl rfl (fun _ st => C137 (a0 := a0)  hc19 st) ?_
      rintro _ _ ⟨rfl, rfl⟩
      refine TO.code ?_
      refine TC.k ?_
      refine TC.region ?_
      refine TO.s rfl rfl rfl (StepS.move rfl) ?_
      refine TO.s rfl rfl rfl (StepS.nilc rfl) ?_
      refine TO.s rfl rfl rfl (StepS.fld rfl kfieldB_183_0_0_true) ?_
      refine TO.s rfl rfl rfl (StepS.ldB rfl (Ent.at 0 rfl) kscalB_181_true rfl) ?_
      refine TO.s rfl rfl rfl (StepS.move rfl) ?_
      obtain ⟨x21, hx22, hm⟩ := bind_some hm
      refine TO.s rfl rfl rfl (StepS.idx rfl rfl (OwnS.rd (Ent.at 1 rfl)) ksliceB_181_185_4_true (idx_spec hx22).1 (idxm_lt hx22)) ?_
      refine TO.s rfl rfl rfl (StepS.ptrf rfl kfieldB_185_1_1_true) ?_
      refine TO.stO (i := a2.toNat) (off := 1) (us := [I 0]) 1 (x21.1, 0, x21.2.2.1, x21.2.2.2) rfl rfl rfl ksizeB_3_1_true rfl rfl rfl (idx_spec hx22).2 rfl (by simp [Value.oneCell']) rfl ?_
      refine TO.code ?_
      refine TC.k ?_
      refine TC.region ?_
      refine TO.s rfl rfl rfl (StepS.assign rfl) ?_
      refine TO.code ?_
      cases hm
      refine TC.ret fun a w e s => ?_
      refine FRet.mk1 (P := Try.prog) (fn := Try.f110) (t := 6) e rfl rfl ?_
      refine ⟨_, _, rfl, ⟨rfl, rfl⟩, ?_⟩
      refine s.mono fun _ s => ?_
      replace s := Sat.front 1 rfl s
      replace s := Sat.front 1 rfl s
      exact s

set_option maxRecDepth 100000 in
theorem C111 {B : World} {L : List HP} {a0 : List (Int × Int × Int × BitVec 32)} {a1 : Int} {b0_ : Nat} {u0_1 : Value} {h0_1 : Value} {s0 : List (Int × Int × Int × BitVec 32)} (hm : F111 a0 a1 = some s0) {w : World} (st : St B (Bx b0_ 183 [h0_1, u0_1] :: OwnS 185 4 h0_1 (a0.map cTiiiiu32) :: L) w) : Calls Try.prog 111 #[.pointer (some ⟨b0_, 0, none⟩), I a1] w (fun e w' => ∃ v M, e = .returned v ∧ (v = .tuple #[] ∧ M = (Bx b0_ 183 [h0_1, u0_1] :: OwnS 185 4 h0_1 (s0.map cTiiiiu32) :: L)) ∧ St B M w') := by
  refine calls_of (N := 18) (L := (Bx b0_ 183 [h0_1, u0_1] :: OwnS 185 4 h0_1 (a0.map cTiiiiu32) :: L)) (args := [.pointer (some ⟨b0_, 0, none⟩), I a1]) Try.func111 rfl rfl rfl ?_ st
  dsimp only [F111] at hm
  refine TC.region_any (Bx b0_ 183 [h0_1, u0_1] :: OwnS 185 4 h0_1 (a0.map cTiiiiu32) :: L) 12 16 kfollows_mixedOrders_true rfl ?_
  refine TA.takeW 0 rfl rfl rfl rfl (StepS.move rfl) (by kernel_rfl) (by kernel_rfl) (by kernel_rfl) rfl (.inr (fun _ s => s)) ?_
  refine TA.takeW 1 rfl rfl rfl rfl (StepS.nilc rfl) (by kernel_rfl) (by kernel_rfl) (by kernel_rfl) rfl (.inr (fun _ s => s)) ?_
  refine TA.takeW 2 rfl rfl rfl rfl (StepS.fld rfl kfieldB_183_0_0_true) (by kernel_rfl) (by kernel_rfl) (by kernel_rfl) rfl (.inr (fun _ s => s)) ?_
  refine TA.take 3 rfl rfl rfl rfl (StepS.ldB rfl (Ent.at 0 rfl) kscalB_181_true rfl) (by kernel_rfl) (by kernel_rfl) (by kernel_rfl) (by kernel_rfl) (by kernel_rfl) (fun _ s => s) ?_
  refine TA.takeW 4 rfl rfl rfl rfl (StepS.move rfl) (by kernel_rfl) (by kernel_rfl) (by kernel_rfl) rfl (.inr (fun _ s => s)) ?_
  refine TA.takeW 5 rfl rfl rfl rfl (StepS.move rfl) (by kernel_rfl) (by kernel_rfl) (by kernel_rfl) rfl (.inr (fun _ s => s)) ?_
  refine TA.takeW 6 rfl rfl rfl rfl (StepS.nilc rfl) (by kernel_rfl) (by kernel_rfl) (by kernel_rfl) rfl (.inr (fun _ s => s)) ?_
  refine TA.takeW 7 rfl rfl rfl rfl (StepS.fld rfl kfieldB_183_0_0_true) (by kernel_rfl) (by kernel_rfl) (by kernel_rfl) rfl (.inr (fun _ s => s)) ?_
  refine TA.take 8 rfl rfl rfl rfl (StepS.ldB rfl (Ent.at 0 rfl) kscalB_181_true rfl) (by kernel_rfl) (by kernel_rfl) (by kernel_rfl) (by kernel_rfl) (by kernel_rfl) (fun _ s => s) ?_
  refine TA.takeW 9 rfl rfl rfl rfl (StepS.move rfl) (by kernel_rfl) (by kernel_rfl) (by kernel_rfl) rfl (.inr (fun _ s => s)) ?_
  refine TA.all1 (i := 10) (by kernel_rfl) ?_
  refine TB.of rfl ?_
  obtain ⟨xq3_10_1, hxq3_10_2, hm⟩ := bind_some hm
  refine TO.s rfl rfl rfl (StepS.idx rfl rfl (OwnS.rd (Ent.at 1 rfl)) ksliceB_181_185_4_true (idx_spec hxq3_10_2).1 (idxm_lt hxq3_10_2)) ?_
  refine TA.back (.inr (fun _ s => s)) ?_
  refine TA.asL (L' := (Bx b0_ 183 [h0_1, u0_1] :: OwnS 185 4 h0_1 (a0.map cTiiiiu32) :: L)) (listed' := #[true, true, true, true, true, true, true, true, true, true, true, false, false, false, false, false]) (by kernel_rfl) (by kernel_rfl) ?_
  refine TA.takeW 11 rfl rfl rfl rfl (StepS.ptrf rfl kfieldB_185_1_1_true) (by kernel_rfl) (by kernel_rfl) (by kernel_rfl) rfl (.inr (fun _ s => s)) ?_
  refine TA.all1 (i := 12) (by kernel_rfl) ?_
  refine TB.of rfl ?_
  refine TO.stO (i := a1.toNat) (off := 1) (us := [I 0]) 1 (xq3_10_1.1, 0, xq3_10_1.2.2.1, xq3_10_1.2.2.2) rfl rfl rfl ksizeB_3_1_true rfl rfl rfl (idx_spec hxq3_10_2).2 rfl (by simp [Value.oneCell']) rfl ?_
  refine TA.back (.inl (by kernel_rfl)) ?_
  refine TA.asL (L' := (Bx b0_ 183 [h0_1, u0_1] :: OwnS 185 4 h0_1 ((a0.set a1.toNat (xq3_10_1.1, 0, xq3_10_1.2.2.1, xq3_10_1.2.2.2)).map cTiiiiu32) :: L)) (listed' := #[true, true, true, true, true, true, true, true, true, true, true, true, true, false, false, false]) (by kernel_rfl) (by kernel_rfl) ?_
  refine TA.all1 (i := 13) (by kernel_rfl) ?_
  refine TB.of rfl ?_
  obtain ⟨xq3_13_1, hxq3_13_2, hm⟩ := bind_some hm
  refine TO.s rfl rfl rfl (StepS.idx rfl rfl (OwnS.rd (Ent.at 1 rfl)) ksliceB_181_185_4_true (idx_spec hxq3_13_2).1 (idxm_lt hxq3_13_2)) ?_
  refine TA.back (.inl (by kernel_rfl)) ?_
  refine TA.asL (L' := (Bx b0_ 183 [h0_1, u0_1] :: OwnS 185 4 h0_1 ((a0.set a1.toNat (xq3_10_1.1, 0, xq3_10_1.2.2.1, xq3_10_1.2.2.2)).map cTiiiiu32) :: L)) (listed' := #[true, true, true, true, true, true, true, true, true, true, true, true, true, true, false, false]) (by kernel_rfl) (by kernel_rfl) ?_
  refine TA.takeW 14 rfl rfl rfl rfl (StepS.ptrf rfl kfieldB_185_3_3_true) (by kernel_rfl) (by kernel_rfl) (by kernel_rfl) rfl (.inl (by kernel_rfl)) ?_
  refine TA.all1 (i := 15) (by kernel_rfl) ?_
  refine TB.of rfl ?_
  refine TO.stO (i := a1.toNat) (off := 3) (us := [U (0#32)]) 1 (xq3_13_1.1, xq3_13_1.2.1, xq3_13_1.2.2.1, 0#32) rfl rfl rfl ksizeB_36_1_true rfl rfl rfl (idx_spec hxq3_13_2).2 rfl (by simp [Value.oneCell']) rfl ?_
  refine TA.back (.inl (by kernel_rfl)) ?_
  refine TA.asL (L' := (Bx b0_ 183 [h0_1, u0_1] :: OwnS 185 4 h0_1 (((a0.set a1.toNat (xq3_10_1.1, 0, xq3_10_1.2.2.1, xq3_10_1.2.2.2)).set a1.toNat (xq3_13_1.1, xq3_13_1.2.1, xq3_13_1.2.2.1, 0#32)).map cTiiiiu32) :: L)) (listed' := #[true, true, true, true, true, true, true, true, true, true, true, true, true, true, true, true]) (by kernel_rfl) (by kernel_rfl) ?_
  cases hm
  refine TA.nil (by kernel_rfl) fun a w e s => ?_
  refine FRet.mk0 (P := Try.prog) (fn := Try.f111) e rfl ?_
  refine ⟨_, _, rfl, ⟨rfl, rfl⟩, ?_⟩
  refine s.mono fun _ s => ?_
  replace s := Sat.front 1 rfl s
  replace s := Sat.front 1 rfl s
  exact s

set_option maxRecDepth 100000 in
theorem C75 {B : World} {L : List HP} {a0 : (List (Int × Int × Int × BitVec 32)) × List (Int × Int)} {a1 : Int × Int × Int × Int} {b0_ : Nat} {h0_1 : Value} {h0_2 : Value} {r0 : Int} {s0 : (List (Int × Int × Int × BitVec 32)) × List (Int × Int)} (hm : F75 a0 a1 = some (r0, s0)) {w : World} (st : St B (Bx b0_ 183 [h0_1, h0_2] :: OwnS 185 4 h0_1 (a0.1.map cTiiiiu32) :: OwnS 114 2 h0_2 (a0.2.map cTii) :: L) w) : Calls Try.prog 75 #[.pointer (some ⟨b0_, 0, none⟩), .agg (cTiiii a1).toArray] w (fun e w' => ∃ v M, e = .returned v ∧ (∃ (qv1 : Value), v = I r0 ∧ M = (Bx b0_ 183 [h0_1, qv1] :: OwnS 185 4 h0_1 (s0.1.map cTiiiiu32) :: OwnS 114 2 qv1 (s0.2.map cTii) :: L)) ∧ St B M w') := by
  refine calls_of (N := 78) (L := (Bx b0_ 183 [h0_1, h0_2] :: OwnS 185 4 h0_1 (a0.1.map cTiiiiu32) :: OwnS 114 2 h0_2 (a0.2.map cTii) :: L)) (args := [.pointer (some ⟨b0_, 0, none⟩), .agg (cTiiii a1).toArray]) Try.func75 rfl rfl rfl ?_ st
  dsimp only [F75] at hm
  refine TC.k ?_
  refine TC.region ?_
  refine TO.box (cs := [.pointer (some ⟨b0_, 0, none⟩)]) rfl rfl rfl fun b5 => ?_
  refine TO.box (cs := [I a1.1, I a1.2.1, I a1.2.2.1, I a1.2.2.2]) rfl rfl rfl fun b6 => ?_
  refine TO.s rfl rfl rfl (StepS.assign rfl) ?_
  refine TO.code ?_
  refine TC.k ?_
  refine TC.region ?_
  refine TO.s rfl rfl rfl (StepS.mkfn rfl) ?_
  refine TO.s rfl rfl rfl (StepS.assign rfl) ?_
  refine TO.code ?_
  refine TC.k ?_
  refine TC.region ?_
  refine TO.s rfl rfl rfl (StepS.fld rfl kfieldB_106_0_0_true) ?_
  refine TO.s rfl rfl rfl (StepS.ldB rfl (Ent.at 0 rfl) kscalB_3_true rfl) ?_
  refine TO.s rfl rfl rfl (StepS.cmp rfl rfl rfl) ?_
  refine TO.s rfl rfl rfl (StepS.move rfl) ?_
  refine TO.mid1 4 15 (.bool ((a1.1 == 2) || (a1.1 == 3))) ?_ ?_
  · refine bcase ((a1.1 == 2)) (fun hb7 => ?_) (fun hb7 => ?_)
    · refine TO.skip rfl rfl rfl (skipT hb7) rfl rfl ?_
      refine TO.skip rfl rfl rfl (skipT hb7) rfl rfl ?_
      refine TO.skip rfl rfl rfl (skipT hb7) rfl rfl ?_
      refine TO.s rfl rfl rfl (StepS.pickT rfl hb7 rfl) ?_
      exact TO.up1 4 0 rfl rfl (by rw [hb7]; rfl) rfl
    · refine TO.sw rfl rfl rfl hb7 rfl rfl (StepS.fld rfl kfieldB_106_0_0_true) ?_
      refine TO.sw rfl rfl rfl hb7 rfl rfl (StepS.ldB rfl (Ent.at 0 rfl) kscalB_3_true rfl) ?_
      refine TO.sw rfl rfl rfl hb7 rfl rfl (StepS.cmp rfl rfl rfl) ?_
      refine TO.s rfl rfl rfl (StepS.pickF rfl hb7 rfl) ?_
      exact TO.up1 4 0 rfl rfl (by rw [hb7]; rfl) rfl
  refine TO.s rfl rfl rfl (StepS.assign rfl) ?_
  refine TO.code ?_
  refine TC.k ?_
  refine TC.block ?_
  refine TC.k ?_
  refine TC.region ?_
  refine TO.s rfl rfl rfl (StepS.move rfl) ?_
  refine TO.s rfl rfl rfl (StepS.not rfl) ?_
  refine TO.s rfl rfl rfl (StepS.move rfl) ?_
  refine TO.mid1 4 23 (.bool ((!((a1.1 == 2) || (a1.1 == 3))) && (a1.1 != 1))) ?_ ?_
  · refine bcase ((!((a1.1 == 2) || (a1.1 == 3)))) (fun hb8 => ?_) (fun hb8 => ?_)
    · refine TO.sw rfl rfl rfl hb8 rfl rfl (StepS.fld rfl kfieldB_106_0_0_true) ?_
      refine TO.sw rfl rfl rfl hb8 rfl rfl (StepS.ldB rfl (Ent.at 0 rfl) kscalB_3_true rfl) ?_
      refine TO.sw rfl rfl rfl hb8 rfl rfl (StepS.cmp rfl rfl rfl) ?_
      refine TO.s rfl rfl rfl (StepS.pickT rfl hb8 rfl) ?_
      exact TO.up1 4 0 rfl rfl (by rw [hb8]; rfl) rfl
    · refine TO.skip rfl rfl rfl (skipF hb8) rfl rfl ?_
      refine TO.skip rfl rfl rfl (skipF hb8) rfl rfl ?_
      refine TO.skip rfl rfl rfl (skipF hb8) rfl rfl ?_
      refine TO.s rfl rfl rfl (StepS.pickF rfl hb8 rfl) ?_
      exact TO.up1 4 0 rfl rfl (by rw [hb8]; rfl) rfl
  refine TO.s rfl rfl rfl (StepS.move rfl) ?_
  refine TO.mid1 4 28 (.bool (((!((a1.1 == 2) || (a1.1 == 3))) && (a1.1 != 1)) && (a1.1 != 6))) ?_ ?_
  · refine bcase (((!((a1.1 == 2) || (a1.1 == 3))) && (a1.1 != 1))) (fun hb9 => ?_) (fun hb9 => ?_)
    · refine TO.sw rfl rfl rfl hb9 rfl rfl (StepS.fld rfl kfieldB_106_0_0_true) ?_
      refine TO.sw rfl rfl rfl hb9 rfl rfl (StepS.ldB rfl (Ent.at 0 rfl) kscalB_3_true rfl) ?_
      refine TO.sw rfl rfl rfl hb9 rfl rfl (StepS.cmp rfl rfl rfl) ?_
      refine TO.s rfl rfl rfl (StepS.pickT rfl hb9 rfl) ?_
      exact TO.up1 4 0 rfl rfl (by rw [hb9]; rfl) rfl
    · refine TO.skip rfl rfl rfl (skipF hb9) rfl rfl ?_
      refine TO.skip rfl rfl rfl (skipF hb9) rfl rfl ?_
      refine TO.skip rfl rfl rfl (skipF hb9) rfl rfl ?_
      refine TO.s rfl rfl rfl (StepS.pickF rfl hb9 rfl) ?_
      exact TO.up1 4 0 rfl rfl (by rw [hb9]; rfl) rfl
  refine TO.s rfl rfl rfl (StepS.assign rfl) ?_
  refine TO.code ?_
  refine TC.cond rfl (fun hc10 => ?_) (fun hc10 => ?_)
  · replace hm := cond_t hc10 hm
    refine TC.k ?_
    refine TC.region ?_
    refine TO.s rfl rfl rfl (StepS.assign rfl) ?_
    refine TO.code ?_
    cases hm
    refine TC.ret fun a w e s => ?_
    refine FRet.mk1 (P := Try.prog) (fn := Try.f75) (t := 4) e rfl rfl ?_
    refine ⟨_, _, rfl, ⟨(h0_2), rfl, rfl⟩, ?_⟩
    refine s.mono fun _ s => ?_
    replace s := Sat.front 4 rfl s
    replace s := Sat.front 4 rfl s
    replace s := Sat.front 4 rfl s
    replace s := Sat.erase 3 s
    replace s := Sat.erase 3 s
    exact s
  · replace hm := cond_f hc10 hm
    refine TC.k ?_
    refine TC.region ?_
    refine TO.s rfl rfl rfl (StepS.move rfl) ?_
    refine TO.s rfl rfl rfl (StepS.fld rfl kfieldB_106_1_1_true) ?_
    refine TO.s rfl rfl rfl (StepS.ldB rfl (Ent.at 0 rfl) kscalB_3_true rfl) ?_
    obtain ⟨r11, hc12, hm⟩ := bind_some hm
    refine TO.q rfl rfl rfl (StepQ.callC kcallB_107_true rfl rfl rfl (fun _ st => C107 (Ent.at 1 rfl) (Ent.at 2 rfl) (Rd.hdm (OwnS.rd (Ent.at 3 rfl))) hc12 st)) ?_
    refine TO.s rfl rfl rfl (StepS.move rfl) ?_
    obtain ⟨b14, hj15, hm⟩ := bind_some hm
    refine TO.mid1 15 49 (.bool b14) ?_ ?_
    · refine bcase (r11) (fun hb13 => ?_) (fun hb13 => ?_)
      · replace hj15 := cond_t hb13 hj15
        cases hj15
        refine TO.skip rfl rfl rfl (skipT hb13) rfl rfl ?_
        refine TO.skip rfl rfl rfl (skipT hb13) rfl rfl ?_
        refine TO.skip rfl rfl rfl skipU rfl rfl ?_
        refine TO.skip rfl rfl rfl skipU rfl rfl ?_
        refine TO.skip rfl rfl rfl skipU rfl rfl ?_
        refine TO.skip rfl rfl rfl skipU rfl rfl ?_
        refine TO.skip rfl rfl rfl skipU rfl rfl ?_
        refine TO.skip rfl rfl rfl skipU rfl rfl ?_
        refine TO.skip rfl rfl rfl skipU rfl rfl ?_
        refine TO.skip rfl rfl rfl skipU rfl rfl ?_
        refine TO.skip rfl rfl rfl skipU rfl rfl ?_
        refine TO.skip rfl rfl rfl skipU rfl rfl ?_
        refine TO.skip rfl rfl rfl skipU rfl rfl ?_
        refine TO.skip rfl rfl rfl (skipT hb13) rfl rfl ?_
        refine TO.s rfl rfl rfl (StepS.pickT rfl hb13 rfl) ?_
        exact TO.up1 15 0 rfl rfl rfl rfl
      · replace hj15 := cond_f hb13 hj15
        refine TO.sw rfl rfl rfl hb13 rfl rfl (StepS.move rfl) ?_
        refine TO.sw rfl rfl rfl hb13 rfl rfl (StepS.move rfl) ?_
        obtain ⟨b17, hj18, hj15⟩ := bind_some hj15
        refine TO.mid1 12 48 (.bool b17) ?_ ?_
        · refine bcase (((a1.1 == 2) || (a1.1 == 3))) (fun hb16 => ?_) (fun hb16 => ?_)
          · replace hj18 := cond_t hb16 hj18
            refine TO.sw rfl rfl rfl hb16 rfl rfl (StepS.move rfl) ?_
            refine TO.sw rfl rfl rfl hb16 rfl rfl (StepS.fld rfl kfieldB_106_2_2_true) ?_
            refine TO.sw rfl rfl rfl hb16 rfl rfl (StepS.ldB rfl (Ent.at 0 rfl) kscalB_3_true rfl) ?_
            obtain ⟨r19, hc20, hj18⟩ := bind_some hj18
            refine TO.qw rfl rfl rfl hb16 rfl rfl (StepQ.callC kcallB_107_true rfl rfl rfl (fun _ st => C107 (Ent.at 1 rfl) (Ent.at 2 rfl) (Rd.hdm (OwnS.rd (Ent.at 3 rfl))) hc20 st)) ?_
            refine TO.sw rfl rfl rfl hb16 rfl rfl (StepS.move rfl) ?_
            refine TO.mid1 6 47 (.bool (r19 || (a1.2.1 == a1.2.2.1))) ?_ ?_
            · refine bcase (r19) (fun hb21 => ?_) (fun hb21 => ?_)
              · refine TO.skip rfl rfl rfl (skipT hb21) rfl rfl ?_
                refine TO.skip rfl rfl rfl (skipT hb21) rfl rfl ?_
                refine TO.skip rfl rfl rfl (skipT hb21) rfl rfl ?_
                refine TO.skip rfl rfl rfl (skipT hb21) rfl rfl ?_
                refine TO.skip rfl rfl rfl (skipT hb21) rfl rfl ?_
                refine TO.sw rfl rfl rfl hb16 rfl rfl (StepS.pickT rfl hb21 rfl) ?_
                exact TO.up1 6 0 rfl rfl (by rw [hb21]; rfl) rfl
              · refine TO.sw rfl rfl rfl hb21 rfl rfl (StepS.fld rfl kfieldB_106_1_1_true) ?_
                refine TO.sw rfl rfl rfl hb21 rfl rfl (StepS.ldB rfl (Ent.at 0 rfl) kscalB_3_true rfl) ?_
                refine TO.sw rfl rfl rfl hb21 rfl rfl (StepS.fld rfl kfieldB_106_2_2_true) ?_
                refine TO.sw rfl rfl rfl hb21 rfl rfl (StepS.ldB rfl (Ent.at 0 rfl) kscalB_3_true rfl) ?_
                refine TO.sw rfl rfl rfl hb21 rfl rfl (StepS.cmp rfl rfl rfl) ?_
                refine TO.sw rfl rfl rfl hb16 rfl rfl (StepS.pickF rfl hb21 rfl) ?_
                exact TO.up1 6 0 rfl rfl (by rw [hb21]; rfl) rfl
            cases hj18
            refine TO.sw rfl rfl rfl hb13 rfl rfl (StepS.pickT rfl hb16 rfl) ?_
            exact TO.up1 7 0 rfl rfl rfl rfl
          · replace hj18 := cond_f hb16 hj18
            cases hj18
            refine TO.skip rfl rfl rfl (skipF hb16) rfl rfl ?_
            refine TO.skip rfl rfl rfl (skipF hb16) rfl rfl ?_
            refine TO.skip rfl rfl rfl (skipF hb16) rfl rfl ?_
            refine TO.skip rfl rfl rfl (skipF hb16) rfl rfl ?_
            refine TO.skip rfl rfl rfl (skipF hb16) rfl rfl ?_
            refine TO.skip rfl rfl rfl skipU rfl rfl ?_
            refine TO.skip rfl rfl rfl skipU rfl rfl ?_
            refine TO.skip rfl rfl rfl skipU rfl rfl ?_
            refine TO.skip rfl rfl rfl skipU rfl rfl ?_
            refine TO.skip rfl rfl rfl skipU rfl rfl ?_
            refine TO.skip rfl rfl rfl (skipF hb16) rfl rfl ?_
            refine TO.sw rfl rfl rfl hb13 rfl rfl (StepS.pickF rfl hb16 rfl) ?_
            exact TO.up1 12 0 rfl rfl rfl rfl
        cases hj15
        refine TO.s rfl rfl rfl (StepS.pickF rfl hb13 rfl) ?_
        exact TO.up1 4 0 rfl rfl rfl rfl
    refine TO.s rfl rfl rfl (StepS.assign rfl) ?_
    refine TO.code ?_
    refine TC.cond rfl (fun hc22 => ?_) (fun hc22 => ?_)
    · replace hm := cond_t hc22 hm
      refine TC.k ?_
      refine TC.region ?_
      refine TO.s rfl rfl rfl (StepS.assign rfl) ?_
      refine TO.code ?_
      cases hm
      refine TC.ret fun a w e s => ?_
      refine FRet.mk1 (P := Try.prog) (fn := Try.f75) (t := 4) e rfl rfl ?_
      refine ⟨_, _, rfl, ⟨(h0_2), rfl, rfl⟩, ?_⟩
      refine s.mono fun _ s => ?_
      replace s := Sat.front 4 rfl s
      replace s := Sat.front 4 rfl s
      replace s := Sat.front 4 rfl s
      replace s := Sat.erase 3 s
      replace s := Sat.erase 3 s
      exact s
    · replace hm := cond_f hc22 hm
      refine TC.skipk ?_
      refine TC.k ?_
      refine TC.k ?_
      refine TC.region ?_
      refine TO.s rfl rfl rfl (StepS.fld rfl kfieldB_106_0_0_true) ?_
      refine TO.s rfl rfl rfl (StepS.ldB rfl (Ent.at 0 rfl) kscalB_3_true rfl) ?_
      refine TO.code ?_
      refine TC.block ?_
      refine TC.k ?_
      refine TC.region ?_
      refine TO.s rfl rfl rfl (StepS.cmp rfl rfl rfl) ?_
      refine TO.s rfl rfl rfl (StepS.assign rfl) ?_
      refine TO.code ?_
      refine TC.cond rfl (fun hc23 => ?_) (fun hc23 => ?_)
      · replace hm := cond_t hc23 hm
        refine TC.k ?_
        refine TC.region ?_
        refine TO.s rfl rfl rfl (StepS.ldB rfl (Ent.at 1 rfl) kscalB_179_true rfl) ?_
        refine TO.s rfl rfl rfl (StepS.fld rfl kfieldB_106_1_1_true) ?_
        refine TO.s rfl rfl rfl (StepS.ldB rfl (Ent.at 0 rfl) kscalB_3_true rfl) ?_
        refine TO.ghost (fun _ s => Sat.front 4 rfl s) ?_
        refine TO.ghost (fun _ s => Sat.front 4 rfl s) ?_
        refine TO.ghost (fun _ s => Sat.front 4 rfl s) ?_
        obtain ⟨⟨r24, r25⟩, hc26, hm⟩ := bind_some hm
        refine TO.callO kcallB_108_true rfl rfl rfl (fun _ st => C108 (a0 := (a0.1, a0.2))  hc26 st) ?_
        rintro _ _ ⟨v28, rfl, rfl⟩
        refine TO.s rfl rfl rfl (StepS.assign rfl) ?_
        refine TO.code ?_
        cases hm
        refine TC.ret fun a w e s => ?_
        refine FRet.mk1 (P := Try.prog) (fn := Try.f75) (t := 4) e rfl rfl ?_
        refine ⟨_, _, rfl, ⟨(v28), rfl, rfl⟩, ?_⟩
        refine s.mono fun _ s => ?_
        replace s := Sat.front 2 rfl s
        replace s := Sat.front 2 rfl s
        replace s := Sat.front 2 rfl s
        replace s := Sat.erase 3 s
        replace s := Sat.erase 3 s
        exact s
      · replace hm := cond_f hc23 hm
        refine TC.k ?_
        refine TC.region ?_
        refine TO.s rfl rfl rfl (StepS.cmp rfl rfl rfl) ?_
        refine TO.s rfl rfl rfl (StepS.assign rfl) ?_
        refine TO.code ?_
        refine TC.cond rfl (fun hc30 => ?_) (fun hc30 => ?_)
        · replace hm := cond_t hc30 hm
          refine TC.k ?_
          refine TC.region ?_
          refine TO.s rfl rfl rfl (StepS.ldB rfl (Ent.at 1 rfl) kscalB_179_true rfl) ?_
          refine TO.s rfl rfl rfl (StepS.fld rfl kfieldB_106_1_1_true) ?_
          refine TO.s rfl rfl rfl (StepS.ldB rfl (Ent.at 0 rfl) kscalB_3_true rfl) ?_
          refine TO.s rfl rfl rfl (StepS.fld rfl kfieldB_106_2_2_true) ?_
          refine TO.s rfl rfl rfl (StepS.ldB rfl (Ent.at 0 rfl) kscalB_3_true rfl) ?_
          refine TO.ghost (fun _ s => Sat.front 4 rfl s) ?_
          refine TO.ghost (fun _ s => Sat.front 4 rfl s) ?_
          refine TO.ghost (fun _ s => Sat.front 4 rfl s) ?_
          obtain ⟨⟨r31, r32⟩, hc33, hm⟩ := bind_some hm
          refine TO.callO kcallB_109_true rfl rfl rfl (fun _ st => C109 (a0 := (a0.1, a0.2))  hc33 st) ?_
          rintro _ _ ⟨v35, rfl, rfl⟩
          refine TO.s rfl rfl rfl (StepS.assign rfl) ?_
          refine TO.code ?_
          cases hm
          refine TC.ret fun a w e s => ?_
          refine FRet.mk1 (P := Try.prog) (fn := Try.f75) (t := 4) e rfl rfl ?_
          refine ⟨_, _, rfl, ⟨(v35), rfl, rfl⟩, ?_⟩
          refine s.mono fun _ s => ?_
          replace s := Sat.front 2 rfl s
          replace s := Sat.front 2 rfl s
          replace s := Sat.front 2 rfl s
          replace s := Sat.erase 3 s
          replace s := Sat.erase 3 s
          exact s
        · replace hm := cond_f hc30 hm
          refine TC.k ?_
          refine TC.region ?_
          refine TO.s rfl rfl rfl (StepS.cmp rfl rfl rfl) ?_
          refine TO.s rfl rfl rfl (StepS.assign rfl) ?_
          refine TO.code ?_
          refine TC.cond rfl (fun hc37 => ?_) (fun hc37 => ?_)
          · replace hm := cond_t hc37 hm
            refine TC.k ?_
            refine TC.region ?_
            refine TO.s rfl rfl rfl (StepS.ldB rfl (Ent.at 1 rfl) kscalB_179_true rfl) ?_
            refine TO.s rfl rfl rfl (StepS.fld rfl kfieldB_106_1_1_true) ?_
            refine TO.s rfl rfl rfl (StepS.ldB rfl (Ent.at 0 rfl) kscalB_3_true rfl) ?_
            refine TO.s rfl rfl rfl (StepS.fld rfl kfieldB_106_2_2_true) ?_
            refine TO.s rfl rfl rfl (StepS.ldB rfl (Ent.at 0 rfl) kscalB_3_true rfl) ?_
            refine TO.ghost (fun _ s => Sat.front 3 rfl s) ?_
            refine TO.ghost (fun _ s => Sat.front 3 rfl s) ?_
            obtain ⟨⟨r38, r39⟩, hc40, hm⟩ := bind_some hm
            refine TO.callO kcallB_110_true rfl rfl rfl (fun _ st => C110 (a0 := a0.1)  hc40 st) ?_
            rintro _ _ ⟨rfl, rfl⟩
            refine TO.s rfl rfl rfl (StepS.assign rfl) ?_
            refine TO.code ?_
            cases hm
            refine TC.ret fun a w e s => ?_
            refine FRet.mk1 (P := Try.prog) (fn := Try.f75) (t := 4) e rfl rfl ?_
            refine ⟨_, _, rfl, ⟨(h0_2), rfl, rfl⟩, ?_⟩
            refine s.mono fun _ s => ?_
            replace s := Sat.front 4 rfl s
            replace s := Sat.front 2 rfl s
            replace s := Sat.front 2 rfl s
            replace s := Sat.erase 3 s
            replace s := Sat.erase 3 s
            exact s
          · replace hm := cond_f hc37 hm
            refine TC.skipk ?_
            refine TC.k ?_
            refine TC.region ?_
            refine TO.s rfl rfl rfl (StepS.ldB rfl (Ent.at 1 rfl) kscalB_179_true rfl) ?_
            refine TO.s rfl rfl rfl (StepS.fld rfl kfieldB_106_1_1_true) ?_
            refine TO.s rfl rfl rfl (StepS.ldB rfl (Ent.at 0 rfl) kscalB_3_true rfl) ?_
            refine TO.ghost (fun _ s => Sat.front 3 rfl s) ?_
            refine TO.ghost (fun _ s => Sat.front 3 rfl s) ?_
            obtain ⟨r42, hc43, hm⟩ := bind_some hm
            refine TO.callO kcallB_111_true rfl rfl rfl (fun _ st => C111 (a0 := a0.1)  hc43 st) ?_
            rintro _ _ ⟨rfl, rfl⟩
            refine TO.code ?_
            refine TC.k ?_
            refine TC.region ?_
            refine TO.s rfl rfl rfl (StepS.assign rfl) ?_
            refine TO.code ?_
            cases hm
            refine TC.ret fun a w e s => ?_
            refine FRet.mk1 (P := Try.prog) (fn := Try.f75) (t := 4) e rfl rfl ?_
            refine ⟨_, _, rfl, ⟨(h0_2), rfl, rfl⟩, ?_⟩
            refine s.mono fun _ s => ?_
            replace s := Sat.front 4 rfl s
            replace s := Sat.front 2 rfl s
            replace s := Sat.front 2 rfl s
            replace s := Sat.erase 3 s
            replace s := Sat.erase 3 s
            exact s

set_option maxHeartbeats 4000000 in
set_option maxRecDepth 100000 in
theorem C41 {B : World} {L : List HP} {a0 : Int} {a1 : List (Int × Int × Int × Int)} {h1 : Value} {r0 : (List Int) × (List Int) × (List Int) × (List Int) × List (Int × Int)} {r1 : Int} (e1 : Ent L (Rd 4 h1 (a1.map cTiiii))) (hm : F41 a0 a1 = some (r0, r1)) {w : World} (st : St B L w) : Calls Try.prog 41 #[I a0, h1] w (fun e w' => ∃ v M, e = .returned v ∧ (∃ (qv1 : Value) (qv2 : Value) (qv3 : Value) (qv4 : Value) (qv5 : Value), v = .tuple #[.agg #[qv1, qv2, qv3, qv4, qv5], I r1] ∧ M = (OwnS 28 1 qv1 (r0.1.map cI) :: OwnS 3 1 qv2 (r0.2.1.map cI) :: OwnS 3 1 qv3 (r0.2.2.1.map cI) :: OwnS 3 1 qv4 (r0.2.2.2.1.map cI) :: OwnS 114 2 qv5 (r0.2.2.2.2.map cTii) :: L)) ∧ St B M w') := by
  refine calls_of (N := 78) (L := L) (args := [I a0, h1]) Try.func41 rfl rfl rfl ?_ st
  dsimp only [F41] at hm
  refine TC.k ?_
  refine TC.region ?_
  refine TO.alloc kinfo_87_bind_zero_some_agg_slice_none_0_0_slice_none_0_0_slice_none_0_0_slice_none_0_0_slice_none_0_0 rfl rfl fun b6 => ?_
  refine TO.s rfl rfl rfl (StepS.assign rfl) ?_
  refine TO.code ?_
  refine TC.k ?_
  refine TC.k ?_
  refine TC.region ?_
  refine TO.s rfl rfl rfl (StepS.move rfl) ?_
  refine TO.s rfl rfl rfl (StepS.cmp rfl rfl rfl) ?_
  refine TO.s rfl rfl rfl (StepS.move rfl) ?_
  refine TO.mid1 3 17 (.bool ((decide (a0 < 1)) || (decide (a0 > 6)))) ?_ ?_
  · refine bcase ((decide (a0 < 1))) (fun hb7 => ?_) (fun hb7 => ?_)
    · refine TO.skip rfl rfl rfl (skipT hb7) rfl rfl ?_
      refine TO.skip rfl rfl rfl (skipT hb7) rfl rfl ?_
      refine TO.s rfl rfl rfl (StepS.pickT rfl hb7 rfl) ?_
      exact TO.up1 3 0 rfl rfl (by rw [hb7]; rfl) rfl
    · refine TO.sw rfl rfl rfl hb7 rfl rfl (StepS.move rfl) ?_
      refine TO.sw rfl rfl rfl hb7 rfl rfl (StepS.cmp rfl rfl rfl) ?_
      refine TO.s rfl rfl rfl (StepS.pickF rfl hb7 rfl) ?_
      exact TO.up1 3 0 rfl rfl (by rw [hb7]; rfl) rfl
  refine TO.s rfl rfl rfl (StepS.move rfl) ?_
  refine TO.mid1 4 22 (.bool (((decide (a0 < 1)) || (decide (a0 > 6))) || (decide ((a1.length : Int) > 60)))) ?_ ?_
  · refine bcase (((decide (a0 < 1)) || (decide (a0 > 6)))) (fun hb8 => ?_) (fun hb8 => ?_)
    · refine TO.skip rfl rfl rfl (skipT hb8) rfl rfl ?_
      refine TO.skip rfl rfl rfl (skipT hb8) rfl rfl ?_
      refine TO.skip rfl rfl rfl (skipT hb8) rfl rfl ?_
      refine TO.s rfl rfl rfl (StepS.pickT rfl hb8 rfl) ?_
      exact TO.up1 4 0 rfl rfl (by rw [hb8]; rfl) rfl
    · refine TO.sw rfl rfl rfl hb8 rfl rfl (StepS.move rfl) ?_
      refine TO.sw rfl rfl rfl hb8 rfl rfl (StepS.lenm rfl e1.tl ksliceB_23_106_4_true rfl) ?_
      refine TO.sw rfl rfl rfl hb8 rfl rfl (StepS.cmp rfl rfl rfl) ?_
      refine TO.s rfl rfl rfl (StepS.pickF rfl hb8 rfl) ?_
      exact TO.up1 4 0 rfl rfl (by rw [hb8]; rfl) rfl
  refine TO.code ?_
  refine TC.cond rfl (fun hc9 => ?_) (fun hc9 => ?_)
  · replace hm := cond_t hc9 hm
    refine TC.k ?_
    refine TC.region ?_
    refine TO.s rfl rfl rfl (StepS.build (cs := [.slice none 0 0, .slice none 0 0, .slice none 0 0, .slice none 0 0, .slice none 0 0]) rfl (by kernel_rfl)) ?_
    refine TO.stB (us := [.slice none 0 0, .slice none 0 0, .slice none 0 0, .slice none 0 0, .slice none 0 0]) 0 [.slice none 0 0, .slice none 0 0, .slice none 0 0, .slice none 0 0, .slice none 0 0] rfl rfl rfl ksizeB_87_5_true rfl rfl rfl (by simp [Value.oneCell']) rfl ?_
    refine TO.s rfl rfl rfl (StepS.assign rfl) ?_
    refine TO.code ?_
    cases hm
    refine TC.ret fun a w e s => ?_
    refine FRet.cell2 (P := Try.prog) (fn := Try.f41) e s rfl rfl rfl (Ent.at 0 rfl) kaggB_87_5_true rfl ?_
    refine ⟨_, _, rfl, ⟨(.slice none 0 0), (.slice none 0 0), (.slice none 0 0), (.slice none 0 0), (.slice none 0 0), rfl, rfl⟩, ?_⟩
    refine s.mono fun _ s => ?_
    replace s := Sat.nilS (e := 114) (sz := 2) (f := cTii) s
    replace s := Sat.nilS (e := 3) (sz := 1) (f := cI) s
    replace s := Sat.nilS (e := 3) (sz := 1) (f := cI) s
    replace s := Sat.nilS (e := 3) (sz := 1) (f := cI) s
    replace s := Sat.nilS (e := 28) (sz := 1) (f := cI) s
    replace s := Sat.erase 5 s
    exact s
  · replace hm := cond_f hc9 hm
    refine TC.skipk ?_
    refine TC.k ?_
    refine TC.region ?_
    refine TO.s rfl rfl rfl (StepS.move rfl) ?_
    obtain ⟨r10, hc11, hm⟩ := bind_some hm
    refine TO.callO kcallB_74_true rfl rfl rfl (fun _ st => C74  hc11 st) ?_
    rintro _ _ ⟨b16, v12, v14, rfl, rfl⟩
    refine TO.s rfl rfl rfl (StepS.assign rfl) ?_
    refine TO.code ?_
    refine TC.k ?_
    refine TC.region ?_
    refine TO.alloc kinfo_87_bind_zero_some_agg_slice_none_0_0_slice_none_0_0_slice_none_0_0_slice_none_0_0_slice_none_0_0 rfl rfl fun b17 => ?_
    refine TO.code ?_
    refine TC.k ?_
    refine TC.k ?_
    refine TC.region ?_
    refine TO.s rfl rfl rfl (StepS.move rfl) ?_
    refine TO.s rfl rfl rfl (StepS.lenm rfl e1.tl.tl.tl.tl.tl ksliceB_23_106_4_true rfl) ?_
    refine TO.s rfl rfl rfl (StepS.move rfl) ?_
    refine TO.code ?_
    obtain ⟨o41, hw42, hm⟩ := bind_some hm
    refine TC.loop hw42 (fun (y20, y23, y24, x25) => fun a w => ∃ v18 : Value, ∃ v21 : Value, Mid 78 B [(4, .pointer (some ⟨b6, 0, none⟩)), (6, .pointer (some ⟨b16, 0, none⟩)), (7, .pointer (some ⟨b17, 0, none⟩)), (26, h1), (27, I (a1.length : Int)), (28, I x25)] (OwnS 28 1 v18 (y20.map cI) :: OwnS 114 2 v21 (y23.map cTii) :: Bx b17 87 [v18, .slice none 0 0, .slice none 0 0, .slice none 0 0, .slice none 0 0] :: Bx b16 183 [v12, v21] :: OwnS 185 4 v12 (y24.map cTiiiiu32) :: Bx b6 87 [.slice none 0 0, .slice none 0 0, .slice none 0 0, .slice none 0 0, .slice none 0 0] :: L) a w) (fun (y36, y39, y40) => fun a w => ∃ v34 : Value, ∃ v37 : Value, Mid 78 B [(4, .pointer (some ⟨b6, 0, none⟩)), (6, .pointer (some ⟨b16, 0, none⟩)), (7, .pointer (some ⟨b17, 0, none⟩))] (OwnS 28 1 v34 (y36.map cI) :: OwnS 114 2 v37 (y39.map cTii) :: Bx b17 87 [v34, .slice none 0 0, .slice none 0 0, .slice none 0 0, .slice none 0 0] :: Bx b16 183 [v12, v37] :: OwnS 185 4 v12 (y40.map cTiiiiu32) :: Bx b6 87 [.slice none 0 0, .slice none 0 0, .slice none 0 0, .slice none 0 0, .slice none 0 0] :: L) a w) (fun (_ : Unit) _ _ => False) ?_ ?_ ?_ ?_
    · rintro ⟨y20, y23, y24, x25⟩ o41r hb43 a w ⟨v18, v21, he, hs⟩
      dsimp only [F41_L0] at hb43
      refine TC.use ?_ he hs
      refine TC.k ?_
      refine TC.region ?_
      refine TO.s rfl rfl rfl (StepS.cmp rfl rfl rfl) ?_
      refine TO.code ?_
      refine TC.k ?_
      refine TC.cond rfl (fun hc44 => ?_) (fun hc44 => ?_)
      · replace hb43 := cond_t hc44 hb43
        refine TC.skipk ?_
        refine TC.k ?_
        refine TC.block ?_
        refine TC.k ?_
        refine TC.region ?_
        obtain ⟨x45, hx46, hb43⟩ := bind_some hb43
        refine TO.s rfl rfl rfl (StepS.idx rfl rfl e1.tl.tl.tl.tl.tl.tl ksliceB_23_106_4_true (idx_spec hx46).1 (idxm_lt hx46)) ?_
        refine TO.s rfl rfl rfl (StepS.ldE rfl e1.tl.tl.tl.tl.tl.tl kaggB_106_4_true rfl (idxm hx46)) ?_
        refine TO.alloc kinfo_106_bind_zero_some_agg_I_0_I_0_I_0_I_0 rfl rfl fun b47 => ?_
        refine TO.stB (us := [I x45.1, I x45.2.1, I x45.2.2.1, I x45.2.2.2]) 0 [I x45.1, I x45.2.1, I x45.2.2.1, I x45.2.2.2] rfl rfl rfl ksizeB_106_4_true rfl rfl rfl (by simp [Value.oneCell']) rfl ?_
        refine TO.code ?_
        refine TC.region_any (Bx b47 106 [I x45.1, I x45.2.1, I x45.2.2.1, I x45.2.2.2] :: Bx b17 87 [v18, .slice none 0 0, .slice none 0 0, .slice none 0 0, .slice none 0 0] :: Bx b6 87 [.slice none 0 0, .slice none 0 0, .slice none 0 0, .slice none 0 0, .slice none 0 0] :: L) 8 9 kfollows_mixedOrders_true rfl ?_
        refine TA.takeW 0 rfl rfl rfl rfl (StepS.fld rfl kfieldB_87_0_0_true) (by kernel_rfl) (by kernel_rfl) (by kernel_rfl) rfl (.inr (fun _ s => Sat.by [6, 4, 2] 3 4 (by kernel_rfl) s)) ?_
        refine TA.take 1 rfl rfl rfl rfl (StepS.ldB rfl (Ent.at 1 rfl) kscalB_24_true rfl) (by kernel_rfl) (by kernel_rfl) (by kernel_rfl) (by kernel_rfl) (by kernel_rfl) (fun _ s => Sat.by [6, 4, 2] 3 4 (by kernel_rfl) s) ?_
        refine TA.takeW 2 rfl rfl rfl rfl (StepS.move rfl) (by kernel_rfl) (by kernel_rfl) (by kernel_rfl) rfl (.inr (fun _ s => Sat.by [6, 4, 2] 3 4 (by kernel_rfl) s)) ?_
        refine TA.take 3 rfl rfl rfl rfl (StepS.ldBA rfl (Ent.at 0 rfl) kaggB_106_4_true rfl rfl) (by kernel_rfl) (by kernel_rfl) (by kernel_rfl) (by kernel_rfl) (by kernel_rfl) (fun _ s => Sat.by [6, 4, 2] 3 4 (by kernel_rfl) s) ?_
        refine TA.all1 (i := 4) (by kernel_rfl) ?_
        refine TB.of rfl ?_
        refine TO.ghost (fun _ s => Sat.front 2 rfl s) ?_
        refine TO.ghost (fun _ s => Sat.front 5 rfl s) ?_
        refine TO.ghost (fun _ s => Sat.front 5 rfl s) ?_
        obtain ⟨⟨rq48_4_1, rq48_4_2⟩, hcq48_4_3, hb43⟩ := bind_some hb43
        refine TO.callO kcallB_75_true rfl rfl rfl (fun _ st => C75 (a0 := (y24, y23))  hcq48_4_3 st) ?_
        rintro _ _ ⟨vq48_4_5, rfl, rfl⟩
        refine TA.back (.inr (fun _ s => Sat.by [6, 6, 5] 3 4 (by kernel_rfl) s)) ?_
        refine TA.asL (L' := (Bx b16 183 [v12, vq48_4_5] :: OwnS 185 4 v12 (rq48_4_2.1.map cTiiiiu32) :: OwnS 114 2 vq48_4_5 (rq48_4_2.2.map cTii) :: Bx b47 106 [I x45.1, I x45.2.1, I x45.2.2.1, I x45.2.2.2] :: OwnS 28 1 v18 (y20.map cI) :: Bx b17 87 [v18, .slice none 0 0, .slice none 0 0, .slice none 0 0, .slice none 0 0] :: Bx b6 87 [.slice none 0 0, .slice none 0 0, .slice none 0 0, .slice none 0 0, .slice none 0 0] :: L)) (listed' := #[true, true, true, true, true, false, false, false, false]) (by kernel_rfl) (by kernel_rfl) ?_
        refine TA.all1 (i := 5) (by kernel_rfl) ?_
        refine TB.of rfl ?_
        refine TO.litS (f := cI) ([rq48_4_1] : List Int) kelemB_24_28_1_8_true kinfo_28_bind_zero_some_I_0 rfl rfl (fun _ => rfl) rfl rfl (by kernel_rfl) rfl fun vq48_5_1 => ?_
        refine TA.back (.inr (fun _ s => Sat.by [7, 7, 6] 3 5 (by kernel_rfl) s)) ?_
        refine TA.asL (L' := (OwnS 28 1 vq48_5_1 (([rq48_4_1] : List Int).map cI) :: Bx b16 183 [v12, vq48_4_5] :: OwnS 185 4 v12 (rq48_4_2.1.map cTiiiiu32) :: OwnS 114 2 vq48_4_5 (rq48_4_2.2.map cTii) :: Bx b47 106 [I x45.1, I x45.2.1, I x45.2.2.1, I x45.2.2.2] :: OwnS 28 1 v18 (y20.map cI) :: Bx b17 87 [v18, .slice none 0 0, .slice none 0 0, .slice none 0 0, .slice none 0 0] :: Bx b6 87 [.slice none 0 0, .slice none 0 0, .slice none 0 0, .slice none 0 0, .slice none 0 0] :: L)) (listed' := #[true, true, true, true, true, true, false, false, false]) (by kernel_rfl) (by kernel_rfl) ?_
        refine TA.all1 (i := 6) (by kernel_rfl) ?_
        refine TB.of rfl ?_
        obtain ⟨yq48_6_1, hkq48_6_2, hb43⟩ := bind_some hb43
        refine TO.app (k := 5) (f := cI) kelemB_24_28_1_8_true (by decide) rfl rfl rfl (OwnS.rd (Ent.at 0 rfl)) hkq48_6_2 (fun x c hc => by simp [Value.oneCell'] at hc ⊢; first | (obtain rfl := hc; rfl) | (rcases hc with rfl <;> rfl)) rfl rfl fun vq48_6_3 => ?_
        refine TA.back (.inr (fun _ s => Sat.by [7, 7, 6] 3 5 (by kernel_rfl) s)) ?_
        refine TA.asL (L' := (OwnS 28 1 vq48_5_1 (([rq48_4_1] : List Int).map cI) :: Bx b16 183 [v12, vq48_4_5] :: OwnS 185 4 v12 (rq48_4_2.1.map cTiiiiu32) :: OwnS 114 2 vq48_4_5 (rq48_4_2.2.map cTii) :: Bx b47 106 [I x45.1, I x45.2.1, I x45.2.2.1, I x45.2.2.2] :: OwnS 28 1 vq48_6_3 (yq48_6_1.map cI) :: Bx b17 87 [v18, .slice none 0 0, .slice none 0 0, .slice none 0 0, .slice none 0 0] :: Bx b6 87 [.slice none 0 0, .slice none 0 0, .slice none 0 0, .slice none 0 0, .slice none 0 0] :: L)) (listed' := #[true, true, true, true, true, true, true, false, false]) (by kernel_rfl) (by kernel_rfl) ?_
        refine TA.takeW 7 rfl rfl rfl rfl (StepS.fld rfl kfieldB_87_0_0_true) (by kernel_rfl) (by kernel_rfl) (by kernel_rfl) rfl (.inr (fun _ s => Sat.by [7, 7, 6] 3 5 (by kernel_rfl) s)) ?_
        refine TA.all1 (i := 8) (by kernel_rfl) ?_
        refine TB.of rfl ?_
        refine TO.pure (fun _ s => Rd.one (OwnS.rd (Ent.at 5 rfl)) s) fun ocq48_8_1 => ?_
        refine TO.stB (us := [vq48_6_3]) 6 [vq48_6_3, .slice none 0 0, .slice none 0 0, .slice none 0 0, .slice none 0 0] rfl rfl rfl ksizeB_24_1_true ocq48_8_1.2 rfl rfl (by intro u hu; simp only [List.mem_cons, List.not_mem_nil, or_false] at hu; rcases hu with rfl <;> first | exact ocq48_8_1.1 | rfl) rfl ?_
        refine TA.back (.inl (by kernel_rfl)) ?_
        refine TA.asL (L' := (OwnS 28 1 vq48_5_1 (([rq48_4_1] : List Int).map cI) :: Bx b16 183 [v12, vq48_4_5] :: OwnS 185 4 v12 (rq48_4_2.1.map cTiiiiu32) :: OwnS 114 2 vq48_4_5 (rq48_4_2.2.map cTii) :: Bx b47 106 [I x45.1, I x45.2.1, I x45.2.2.1, I x45.2.2.2] :: OwnS 28 1 vq48_6_3 (yq48_6_1.map cI) :: Bx b17 87 [vq48_6_3, .slice none 0 0, .slice none 0 0, .slice none 0 0, .slice none 0 0] :: Bx b6 87 [.slice none 0 0, .slice none 0 0, .slice none 0 0, .slice none 0 0, .slice none 0 0] :: L)) (listed' := #[true, true, true, true, true, true, true, true, true]) (by kernel_rfl) (by kernel_rfl) ?_
        refine TA.code (by kernel_rfl) ?_
        refine TC.region ?_
        refine TO.s rfl rfl rfl (StepS.ari rfl rfl rfl) ?_
        refine TO.s rfl rfl rfl (StepS.move rfl) ?_
        cases hb43
        refine TO.nil fun a w e s => ?_
        exact ⟨vq48_6_3, vq48_4_5, e.sub (lk_of_allIn ⟨rfl, rfl, rfl, rfl, rfl, rfl, trivial⟩), s.mono fun _ s => (by exact Sat.by [7, 3, 3, 7, 5, 7] 6 2 (by kernel_rfl) s)⟩
      · replace hb43 := cond_f hc44 hb43
        cases hb43
        refine TC.exit rfl fun a w e s => ?_
        exact ⟨v18, v21, e.sub (lk_of_allIn ⟨rfl, rfl, rfl, trivial⟩), s⟩
    · exact fun a w e s => ⟨.slice none 0 0, v14, e.sub (lk_of_allIn ⟨rfl, rfl, rfl, rfl, rfl, rfl, trivial⟩), s.mono fun _ s => (by replace s := Sat.nilS (e := 28) (sz := 1) (f := cI) s; exact Sat.by [5, 4, 4, 4, 5, 5] 6 0 (by kernel_rfl) s)⟩
    · rintro ⟨y36, y39, y40⟩ rfl a w ⟨v34, v37, he, hs⟩
      dsimp only [Ctl.on] at hm
      refine TC.use ?_ he hs
      refine TC.k ?_
      refine TC.k ?_
      refine TC.region ?_
      refine TO.s rfl rfl rfl (StepS.move rfl) ?_
      refine TO.s rfl rfl rfl (StepS.nilc rfl) ?_
      refine TO.s rfl rfl rfl (StepS.fld rfl kfieldB_183_0_0_true) ?_
      refine TO.s rfl rfl rfl (StepS.ldB rfl (Ent.at 3 rfl) kscalB_181_true rfl) ?_
      refine TO.s rfl rfl rfl (StepS.lenm rfl (OwnS.rd (Ent.at 4 rfl)) ksliceB_181_185_4_true rfl) ?_
      refine TO.s rfl rfl rfl (StepS.move rfl) ?_
      refine TO.code ?_
      obtain ⟨o78, hw79, hm⟩ := bind_some hm
      refine TC.loop hw79 (fun (y51, y54, y57, x58) => fun a w => ∃ v49 : Value, ∃ v52 : Value, ∃ v55 : Value, Mid 78 B [(4, .pointer (some ⟨b6, 0, none⟩)), (6, .pointer (some ⟨b16, 0, none⟩)), (7, .pointer (some ⟨b17, 0, none⟩)), (44, v12), (45, I (y40.length : Int)), (46, I x58)] (OwnS 3 1 v49 (y51.map cI) :: OwnS 3 1 v52 (y54.map cI) :: OwnS 3 1 v55 (y57.map cI) :: OwnS 28 1 v34 (y36.map cI) :: OwnS 114 2 v37 (y39.map cTii) :: Bx b17 87 [v34, v49, v52, v55, .slice none 0 0] :: Bx b16 183 [v12, v37] :: OwnS 185 4 v12 (y40.map cTiiiiu32) :: Bx b6 87 [.slice none 0 0, .slice none 0 0, .slice none 0 0, .slice none 0 0, .slice none 0 0] :: L) a w) (fun (y71, y74, y77) => fun a w => ∃ v69 : Value, ∃ v72 : Value, ∃ v75 : Value, Mid 78 B [(4, .pointer (some ⟨b6, 0, none⟩)), (6, .pointer (some ⟨b16, 0, none⟩)), (7, .pointer (some ⟨b17, 0, none⟩))] (OwnS 3 1 v69 (y71.map cI) :: OwnS 3 1 v72 (y74.map cI) :: OwnS 3 1 v75 (y77.map cI) :: OwnS 28 1 v34 (y36.map cI) :: OwnS 114 2 v37 (y39.map cTii) :: Bx b17 87 [v34, v69, v72, v75, .slice none 0 0] :: Bx b16 183 [v12, v37] :: OwnS 185 4 v12 (y40.map cTiiiiu32) :: Bx b6 87 [.slice none 0 0, .slice none 0 0, .slice none 0 0, .slice none 0 0, .slice none 0 0] :: L) a w) (fun (_ : Unit) _ _ => False) ?_ ?_ ?_ ?_
      · rintro ⟨y51, y54, y57, x58⟩ o78r hb80 a w ⟨v49, v52, v55, he, hs⟩
        dsimp only [F41_L1] at hb80
        refine TC.use ?_ he hs
        refine TC.k ?_
        refine TC.region ?_
        refine TO.s rfl rfl rfl (StepS.cmp rfl rfl rfl) ?_
        refine TO.code ?_
        refine TC.k ?_
        refine TC.cond rfl (fun hc81 => ?_) (fun hc81 => ?_)
        · replace hb80 := cond_t hc81 hb80
          refine TC.skipk ?_
          refine TC.k ?_
          refine TC.block ?_
          refine TC.k ?_
          refine TC.region ?_
          obtain ⟨x82, hx83, hb80⟩ := bind_some hb80
          refine TO.s rfl rfl rfl (StepS.idx rfl rfl (OwnS.rd (Ent.at 7 rfl)) ksliceB_181_185_4_true (idx_spec hx83).1 (idxm_lt hx83)) ?_
          refine TO.s rfl rfl rfl (StepS.ldE rfl (OwnS.rd (Ent.at 7 rfl)) kaggB_185_4_true rfl (idxm hx83)) ?_
          refine TO.alloc kinfo_185_bind_zero_some_agg_I_0_I_0_I_0_U_0 rfl rfl fun b84 => ?_
          refine TO.stB (us := [I x82.1, I x82.2.1, I x82.2.2.1, U x82.2.2.2]) 0 [I x82.1, I x82.2.1, I x82.2.2.1, U x82.2.2.2] rfl rfl rfl ksizeB_185_4_true rfl rfl rfl (by simp [Value.oneCell']) rfl ?_
          refine TO.code ?_
          obtain ⟨⟨y86, y88, y90⟩, hj92, hb80⟩ := bind_some hb80
          first | refine TC.cutM (fun a w => ∃ v87 : Value, ∃ v89 : Value, ∃ v91 : Value, Mid 78 B [(4, .pointer (some ⟨b6, 0, none⟩)), (6, .pointer (some ⟨b16, 0, none⟩)), (7, .pointer (some ⟨b17, 0, none⟩)), (44, v12), (45, I (y40.length : Int)), (46, I x58)] (Bx b84 185 [I x82.1, I x82.2.1, I x82.2.2.1, U x82.2.2.2] :: OwnS 3 1 v87 (y86.map cI) :: OwnS 3 1 v89 (y88.map cI) :: OwnS 3 1 v91 (y90.map cI) :: OwnS 28 1 v34 (y36.map cI) :: OwnS 114 2 v37 (y39.map cTii) :: Bx b17 87 [v34, v87, v89, v91, .slice none 0 0] :: Bx b16 183 [v12, v37] :: OwnS 185 4 v12 (y40.map cTiiiiu32) :: Bx b6 87 [.slice none 0 0, .slice none 0 0, .slice none 0 0, .slice none 0 0, .slice none 0 0] :: L) a w) ?_ ?_ | refine TC.cutX (fun a w => ∃ v87 : Value, ∃ v89 : Value, ∃ v91 : Value, Mid 78 B [(4, .pointer (some ⟨b6, 0, none⟩)), (6, .pointer (some ⟨b16, 0, none⟩)), (7, .pointer (some ⟨b17, 0, none⟩)), (44, v12), (45, I (y40.length : Int)), (46, I x58)] (Bx b84 185 [I x82.1, I x82.2.1, I x82.2.2.1, U x82.2.2.2] :: OwnS 3 1 v87 (y86.map cI) :: OwnS 3 1 v89 (y88.map cI) :: OwnS 3 1 v91 (y90.map cI) :: OwnS 28 1 v34 (y36.map cI) :: OwnS 114 2 v37 (y39.map cTii) :: Bx b17 87 [v34, v87, v89, v91, .slice none 0 0] :: Bx b16 183 [v12, v37] :: OwnS 185 4 v12 (y40.map cTiiiiu32) :: Bx b6 87 [.slice none 0 0, .slice none 0 0, .slice none 0 0, .slice none 0 0, .slice none 0 0] :: L) a w) ?_ ?_
          · obtain ⟨yq85_5_1, hkq85_5_2, hj92⟩ := bind_some hj92
            obtain ⟨yq85_11_1, hkq85_11_2, hj92⟩ := bind_some hj92
            obtain ⟨yq85_17_1, hkq85_17_2, hj92⟩ := bind_some hj92
            refine TC.region_any (Bx b84 185 [I x82.1, I x82.2.1, I x82.2.2.1, U x82.2.2.2] :: OwnS 28 1 v34 (y36.map cI) :: OwnS 114 2 v37 (y39.map cTii) :: Bx b17 87 [v34, v49, v52, v55, .slice none 0 0] :: Bx b16 183 [v12, v37] :: OwnS 185 4 v12 (y40.map cTiiiiu32) :: Bx b6 87 [.slice none 0 0, .slice none 0 0, .slice none 0 0, .slice none 0 0, .slice none 0 0] :: L) 19 24 kfollows_mixedOrders_true rfl ?_
            refine TA.takeW 0 rfl rfl rfl rfl (StepS.fld rfl kfieldB_87_1_1_true) (by kernel_rfl) (by kernel_rfl) (by kernel_rfl) rfl (.inr (fun _ s => Sat.by [9, 9, 9, 9, 9, 9, 6] 7 3 (by kernel_rfl) s)) ?_
            refine TA.take 1 rfl rfl rfl rfl (StepS.ldB rfl (Ent.at 3 rfl) kscalB_22_true rfl) (by kernel_rfl) (by kernel_rfl) (by kernel_rfl) (by kernel_rfl) (by kernel_rfl) (fun _ s => Sat.by [9, 9, 9, 9, 9, 9, 6] 7 3 (by kernel_rfl) s) ?_
            refine TA.takeW 2 rfl rfl rfl rfl (StepS.fld rfl kfieldB_185_0_0_true) (by kernel_rfl) (by kernel_rfl) (by kernel_rfl) rfl (.inr (fun _ s => Sat.by [9, 9, 9, 9, 9, 9, 6] 7 3 (by kernel_rfl) s)) ?_
            refine TA.take 3 rfl rfl rfl rfl (StepS.ldB rfl (Ent.at 0 rfl) kscalB_3_true rfl) (by kernel_rfl) (by kernel_rfl) (by kernel_rfl) (by kernel_rfl) (by kernel_rfl) (fun _ s => Sat.by [9, 9, 9, 9, 9, 9, 6] 7 3 (by kernel_rfl) s) ?_
            refine TA.takeW 6 rfl rfl rfl rfl (StepS.fld rfl kfieldB_87_2_2_true) (by kernel_rfl) (by kernel_rfl) (by kernel_rfl) rfl (.inr (fun _ s => Sat.by [9, 9, 9, 9, 9, 9, 6] 7 3 (by kernel_rfl) s)) ?_
            refine TA.take 7 rfl rfl rfl rfl (StepS.ldB rfl (Ent.at 3 rfl) kscalB_22_true rfl) (by kernel_rfl) (by kernel_rfl) (by kernel_rfl) (by kernel_rfl) (by kernel_rfl) (fun _ s => Sat.by [9, 9, 9, 9, 9, 9, 6] 7 3 (by kernel_rfl) s) ?_
            refine TA.takeW 8 rfl rfl rfl rfl (StepS.fld rfl kfieldB_185_1_1_true) (by kernel_rfl) (by kernel_rfl) (by kernel_rfl) rfl (.inr (fun _ s => Sat.by [9, 9, 9, 9, 9, 9, 6] 7 3 (by kernel_rfl) s)) ?_
            refine TA.takeW 12 rfl rfl rfl rfl (StepS.fld rfl kfieldB_87_3_3_true) (by kernel_rfl) (by kernel_rfl) (by kernel_rfl) rfl (.inr (fun _ s => Sat.by [9, 9, 9, 9, 9, 9, 6] 7 3 (by kernel_rfl) s)) ?_
            refine TA.take 13 rfl rfl rfl rfl (StepS.ldB rfl (Ent.at 3 rfl) kscalB_22_true rfl) (by kernel_rfl) (by kernel_rfl) (by kernel_rfl) (by kernel_rfl) (by kernel_rfl) (fun _ s => Sat.by [9, 9, 9, 9, 9, 9, 6] 7 3 (by kernel_rfl) s) ?_
            refine TA.takeW 14 rfl rfl rfl rfl (StepS.fld rfl kfieldB_185_2_2_true) (by kernel_rfl) (by kernel_rfl) (by kernel_rfl) rfl (.inr (fun _ s => Sat.by [9, 9, 9, 9, 9, 9, 6] 7 3 (by kernel_rfl) s)) ?_
            refine TA.lem (γ := Value × Value × Value × Value × Value × Value) 0 #[true, true, true, true, true, true, true, true, true, true, true, true, true, true, true, true, true, true, true, true, true, true, true, true] (fun (vq85_4_1, vq85_10_1, vq85_16_1, vq85_5_3, vq85_11_3, vq85_17_3) => [(4, .pointer (some ⟨b6, 0, none⟩)), (6, .pointer (some ⟨b16, 0, none⟩)), (7, .pointer (some ⟨b17, 0, none⟩)), (44, v12), (45, I (y40.length : Int)), (46, I x58)]) (fun (vq85_4_1, vq85_10_1, vq85_16_1, vq85_5_3, vq85_11_3, vq85_17_3) => (OwnS 3 1 vq85_4_1 (([x82.1] : List Int).map cI) :: OwnS 3 1 vq85_10_1 (([x82.2.1] : List Int).map cI) :: OwnS 3 1 vq85_16_1 (([x82.2.2.1] : List Int).map cI) :: Bx b84 185 [I x82.1, I x82.2.1, I x82.2.2.1, U x82.2.2.2] :: OwnS 3 1 vq85_5_3 (yq85_5_1.map cI) :: OwnS 3 1 vq85_11_3 (yq85_11_1.map cI) :: OwnS 3 1 vq85_17_3 (yq85_17_1.map cI) :: OwnS 28 1 v34 (y36.map cI) :: OwnS 114 2 v37 (y39.map cTii) :: Bx b17 87 [v34, vq85_5_3, vq85_11_3, vq85_17_3, .slice none 0 0] :: Bx b16 183 [v12, v37] :: OwnS 185 4 v12 (y40.map cTiiiiu32) :: Bx b6 87 [.slice none 0 0, .slice none 0 0, .slice none 0 0, .slice none 0 0, .slice none 0 0] :: L)) ?_ fun hSq85_0 => ?_
            · rintro ⟨vq85_4_1, vq85_10_1, vq85_16_1, vq85_5_3, vq85_11_3, vq85_17_3⟩
              cases hj92
              refine TA.nil (by kernel_rfl) fun a w e s => ?_
              exact ⟨vq85_5_3, vq85_11_3, vq85_17_3, e.sub (lk_of_allIn ⟨rfl, rfl, rfl, rfl, rfl, rfl, trivial⟩), s.mono fun _ => Sat.dropN 3⟩
            refine TA.lem (γ := Value × Value × Value × Value × Value × Value) 1 #[true, true, true, true, true, true, true, true, true, true, true, true, true, true, true, true, true, true, true, true, true, true, true, false] (fun (vq85_4_1, vq85_10_1, vq85_16_1, vq85_5_3, vq85_11_3, vq85_17_3) => [(4, .pointer (some ⟨b6, 0, none⟩)), (6, .pointer (some ⟨b16, 0, none⟩)), (7, .pointer (some ⟨b17, 0, none⟩)), (44, v12), (45, I (y40.length : Int)), (46, I x58), (67, vq85_17_3), (70, .pointer (some ⟨b17, 0 + 3, none⟩))]) (fun (vq85_4_1, vq85_10_1, vq85_16_1, vq85_5_3, vq85_11_3, vq85_17_3) => (OwnS 3 1 vq85_4_1 (([x82.1] : List Int).map cI) :: OwnS 3 1 vq85_10_1 (([x82.2.1] : List Int).map cI) :: OwnS 3 1 vq85_16_1 (([x82.2.2.1] : List Int).map cI) :: Bx b84 185 [I x82.1, I x82.2.1, I x82.2.2.1, U x82.2.2.2] :: OwnS 3 1 vq85_5_3 (yq85_5_1.map cI) :: OwnS 3 1 vq85_11_3 (yq85_11_1.map cI) :: OwnS 3 1 vq85_17_3 (yq85_17_1.map cI) :: OwnS 28 1 v34 (y36.map cI) :: OwnS 114 2 v37 (y39.map cTii) :: Bx b17 87 [v34, vq85_5_3, vq85_11_3, v55, .slice none 0 0] :: Bx b16 183 [v12, v37] :: OwnS 185 4 v12 (y40.map cTiiiiu32) :: Bx b6 87 [.slice none 0 0, .slice none 0 0, .slice none 0 0, .slice none 0 0, .slice none 0 0] :: L)) ?_ fun hSq85_1 => ?_
            · rintro ⟨vq85_4_1, vq85_10_1, vq85_16_1, vq85_5_3, vq85_11_3, vq85_17_3⟩
              refine TA.all1 (i := 23) (by kernel_rfl) ?_
              · refine TB.of rfl ?_
                refine TO.pure (fun _ s => Rd.one (OwnS.rd (Ent.at 6 rfl)) s) fun ocq85_23_1 => ?_
                refine TO.stB (us := [vq85_17_3]) 9 [v34, vq85_5_3, vq85_11_3, vq85_17_3, .slice none 0 0] rfl rfl rfl ksizeB_22_1_true ocq85_23_1.2 rfl rfl (by intro u hu; simp only [List.mem_cons, List.not_mem_nil, or_false] at hu; rcases hu with rfl <;> first | exact ocq85_23_1.1 | rfl) rfl ?_
                refine TA.back (.inl (by kernel_rfl)) ?_
                refine TA.asL (L' := (OwnS 3 1 vq85_4_1 (([x82.1] : List Int).map cI) :: OwnS 3 1 vq85_10_1 (([x82.2.1] : List Int).map cI) :: OwnS 3 1 vq85_16_1 (([x82.2.2.1] : List Int).map cI) :: Bx b84 185 [I x82.1, I x82.2.1, I x82.2.2.1, U x82.2.2.2] :: OwnS 3 1 vq85_5_3 (yq85_5_1.map cI) :: OwnS 3 1 vq85_11_3 (yq85_11_1.map cI) :: OwnS 3 1 vq85_17_3 (yq85_17_1.map cI) :: OwnS 28 1 v34 (y36.map cI) :: OwnS 114 2 v37 (y39.map cTii) :: Bx b17 87 [v34, vq85_5_3, vq85_11_3, vq85_17_3, .slice none 0 0] :: Bx b16 183 [v12, v37] :: OwnS 185 4 v12 (y40.map cTiiiiu32) :: Bx b6 87 [.slice none 0 0, .slice none 0 0, .slice none 0 0, .slice none 0 0, .slice none 0 0] :: L)) (listed' := #[true, true, true, true, true, true, true, true, true, true, true, true, true, true, true, true, true, true, true, true, true, true, true, true]) (by kernel_rfl) (by kernel_rfl) ?_
                exact TA.jump hSq85_0 (vq85_4_1, vq85_10_1, vq85_16_1, vq85_5_3, vq85_11_3, vq85_17_3) rfl (by kernel_rfl) ⟨rfl, rfl, rfl, rfl, rfl, rfl, trivial⟩ (fun _ s => Sat.by [12, 12, 12, 12, 12, 12, 12, 12, 12, 12, 12, 12, 12] 13 0 (by kernel_rfl) s)
            refine TA.lem (γ := Value × Value × Value × Value × Value × Value) 3 #[true, true, true, true, true, true, true, true, true, true, true, true, true, true, true, true, true, true, true, true, true, false, false, false] (fun (vq85_4_1, vq85_10_1, vq85_16_1, vq85_5_3, vq85_11_3, vq85_17_3) => [(4, .pointer (some ⟨b6, 0, none⟩)), (6, .pointer (some ⟨b16, 0, none⟩)), (7, .pointer (some ⟨b17, 0, none⟩)), (44, v12), (45, I (y40.length : Int)), (46, I x58), (61, vq85_11_3), (67, vq85_17_3), (69, .pointer (some ⟨b17, 0 + 2, none⟩))]) (fun (vq85_4_1, vq85_10_1, vq85_16_1, vq85_5_3, vq85_11_3, vq85_17_3) => (OwnS 3 1 vq85_4_1 (([x82.1] : List Int).map cI) :: OwnS 3 1 vq85_10_1 (([x82.2.1] : List Int).map cI) :: OwnS 3 1 vq85_16_1 (([x82.2.2.1] : List Int).map cI) :: Bx b84 185 [I x82.1, I x82.2.1, I x82.2.2.1, U x82.2.2.2] :: OwnS 3 1 vq85_5_3 (yq85_5_1.map cI) :: OwnS 3 1 vq85_11_3 (yq85_11_1.map cI) :: OwnS 3 1 vq85_17_3 (yq85_17_1.map cI) :: OwnS 28 1 v34 (y36.map cI) :: OwnS 114 2 v37 (y39.map cTii) :: Bx b17 87 [v34, vq85_5_3, v52, v55, .slice none 0 0] :: Bx b16 183 [v12, v37] :: OwnS 185 4 v12 (y40.map cTiiiiu32) :: Bx b6 87 [.slice none 0 0, .slice none 0 0, .slice none 0 0, .slice none 0 0, .slice none 0 0] :: L)) ?_ fun hSq85_2 => ?_
            · rintro ⟨vq85_4_1, vq85_10_1, vq85_16_1, vq85_5_3, vq85_11_3, vq85_17_3⟩
              refine TA.all1 (i := 21) (by kernel_rfl) ?_
              · refine TB.of rfl ?_
                refine TO.pure (fun _ s => Rd.one (OwnS.rd (Ent.at 5 rfl)) s) fun ocq85_21_1 => ?_
                refine TO.stB (us := [vq85_11_3]) 9 [v34, vq85_5_3, vq85_11_3, v55, .slice none 0 0] rfl rfl rfl ksizeB_22_1_true ocq85_21_1.2 rfl rfl (by intro u hu; simp only [List.mem_cons, List.not_mem_nil, or_false] at hu; rcases hu with rfl <;> first | exact ocq85_21_1.1 | rfl) rfl ?_
                refine TA.back (.inl (by kernel_rfl)) ?_
                refine TA.asL (L' := (OwnS 3 1 vq85_4_1 (([x82.1] : List Int).map cI) :: OwnS 3 1 vq85_10_1 (([x82.2.1] : List Int).map cI) :: OwnS 3 1 vq85_16_1 (([x82.2.2.1] : List Int).map cI) :: Bx b84 185 [I x82.1, I x82.2.1, I x82.2.2.1, U x82.2.2.2] :: OwnS 3 1 vq85_5_3 (yq85_5_1.map cI) :: OwnS 3 1 vq85_11_3 (yq85_11_1.map cI) :: OwnS 3 1 vq85_17_3 (yq85_17_1.map cI) :: OwnS 28 1 v34 (y36.map cI) :: OwnS 114 2 v37 (y39.map cTii) :: Bx b17 87 [v34, vq85_5_3, vq85_11_3, v55, .slice none 0 0] :: Bx b16 183 [v12, v37] :: OwnS 185 4 v12 (y40.map cTiiiiu32) :: Bx b6 87 [.slice none 0 0, .slice none 0 0, .slice none 0 0, .slice none 0 0, .slice none 0 0] :: L)) (listed' := #[true, true, true, true, true, true, true, true, true, true, true, true, true, true, true, true, true, true, true, true, true, true, false, false]) (by kernel_rfl) (by kernel_rfl) ?_
                refine TA.takeW 22 rfl rfl rfl rfl (StepS.fld rfl kfieldB_87_3_3_true) (by kernel_rfl) (by kernel_rfl) (by kernel_rfl) rfl (.inl (by kernel_rfl)) ?_
                exact TA.jump hSq85_1 (vq85_4_1, vq85_10_1, vq85_16_1, vq85_5_3, vq85_11_3, vq85_17_3) rfl (by kernel_rfl) ⟨rfl, rfl, rfl, rfl, rfl, rfl, rfl, rfl, trivial⟩ (fun _ s => Sat.by [12, 12, 12, 12, 12, 12, 12, 12, 12, 12, 12, 12, 12] 13 0 (by kernel_rfl) s)
            refine TA.lem (γ := Value × Value × Value × Value × Value × Value) 5 #[true, true, true, true, true, true, true, true, true, true, true, true, true, true, true, true, true, true, true, false, false, false, false, false] (fun (vq85_4_1, vq85_10_1, vq85_16_1, vq85_5_3, vq85_11_3, vq85_17_3) => [(4, .pointer (some ⟨b6, 0, none⟩)), (6, .pointer (some ⟨b16, 0, none⟩)), (7, .pointer (some ⟨b17, 0, none⟩)), (44, v12), (45, I (y40.length : Int)), (46, I x58), (55, vq85_5_3), (61, vq85_11_3), (67, vq85_17_3), (68, .pointer (some ⟨b17, 0 + 1, none⟩))]) (fun (vq85_4_1, vq85_10_1, vq85_16_1, vq85_5_3, vq85_11_3, vq85_17_3) => (OwnS 3 1 vq85_4_1 (([x82.1] : List Int).map cI) :: OwnS 3 1 vq85_10_1 (([x82.2.1] : List Int).map cI) :: OwnS 3 1 vq85_16_1 (([x82.2.2.1] : List Int).map cI) :: Bx b84 185 [I x82.1, I x82.2.1, I x82.2.2.1, U x82.2.2.2] :: OwnS 3 1 vq85_5_3 (yq85_5_1.map cI) :: OwnS 3 1 vq85_11_3 (yq85_11_1.map cI) :: OwnS 3 1 vq85_17_3 (yq85_17_1.map cI) :: OwnS 28 1 v34 (y36.map cI) :: OwnS 114 2 v37 (y39.map cTii) :: Bx b17 87 [v34, v49, v52, v55, .slice none 0 0] :: Bx b16 183 [v12, v37] :: OwnS 185 4 v12 (y40.map cTiiiiu32) :: Bx b6 87 [.slice none 0 0, .slice none 0 0, .slice none 0 0, .slice none 0 0, .slice none 0 0] :: L)) ?_ fun hSq85_3 => ?_
            · rintro ⟨vq85_4_1, vq85_10_1, vq85_16_1, vq85_5_3, vq85_11_3, vq85_17_3⟩
              refine TA.all1 (i := 19) (by kernel_rfl) ?_
              · refine TB.of rfl ?_
                refine TO.pure (fun _ s => Rd.one (OwnS.rd (Ent.at 4 rfl)) s) fun ocq85_19_1 => ?_
                refine TO.stB (us := [vq85_5_3]) 9 [v34, vq85_5_3, v52, v55, .slice none 0 0] rfl rfl rfl ksizeB_22_1_true ocq85_19_1.2 rfl rfl (by intro u hu; simp only [List.mem_cons, List.not_mem_nil, or_false] at hu; rcases hu with rfl <;> first | exact ocq85_19_1.1 | rfl) rfl ?_
                refine TA.back (.inl (by kernel_rfl)) ?_
                refine TA.asL (L' := (OwnS 3 1 vq85_4_1 (([x82.1] : List Int).map cI) :: OwnS 3 1 vq85_10_1 (([x82.2.1] : List Int).map cI) :: OwnS 3 1 vq85_16_1 (([x82.2.2.1] : List Int).map cI) :: Bx b84 185 [I x82.1, I x82.2.1, I x82.2.2.1, U x82.2.2.2] :: OwnS 3 1 vq85_5_3 (yq85_5_1.map cI) :: OwnS 3 1 vq85_11_3 (yq85_11_1.map cI) :: OwnS 3 1 vq85_17_3 (yq85_17_1.map cI) :: OwnS 28 1 v34 (y36.map cI) :: OwnS 114 2 v37 (y39.map cTii) :: Bx b17 87 [v34, vq85_5_3, v52, v55, .slice none 0 0] :: Bx b16 183 [v12, v37] :: OwnS 185 4 v12 (y40.map cTiiiiu32) :: Bx b6 87 [.slice none 0 0, .slice none 0 0, .slice none 0 0, .slice none 0 0, .slice none 0 0] :: L)) (listed' := #[true, true, true, true, true, true, true, true, true, true, true, true, true, true, true, true, true, true, true, true, false, false, false, false]) (by kernel_rfl) (by kernel_rfl) ?_
                refine TA.takeW 20 rfl rfl rfl rfl (StepS.fld rfl kfieldB_87_2_2_true) (by kernel_rfl) (by kernel_rfl) (by kernel_rfl) rfl (.inl (by kernel_rfl)) ?_
                exact TA.jump hSq85_2 (vq85_4_1, vq85_10_1, vq85_16_1, vq85_5_3, vq85_11_3, vq85_17_3) rfl (by kernel_rfl) ⟨rfl, rfl, rfl, rfl, rfl, rfl, rfl, rfl, rfl, trivial⟩ (fun _ s => Sat.by [12, 12, 12, 12, 12, 12, 12, 12, 12, 12, 12, 12, 12] 13 0 (by kernel_rfl) s)
            refine TA.lem (γ := Value × Value × Value × Value × Value) 6 #[true, true, true, true, true, true, true, true, true, true, true, true, true, true, true, true, true, false, true, false, false, false, false, false] (fun (vq85_4_1, vq85_10_1, vq85_16_1, vq85_5_3, vq85_11_3) => [(4, .pointer (some ⟨b6, 0, none⟩)), (6, .pointer (some ⟨b16, 0, none⟩)), (7, .pointer (some ⟨b17, 0, none⟩)), (44, v12), (45, I (y40.length : Int)), (46, I x58), (55, vq85_5_3), (61, vq85_11_3), (63, v55), (66, vq85_16_1), (68, .pointer (some ⟨b17, 0 + 1, none⟩))]) (fun (vq85_4_1, vq85_10_1, vq85_16_1, vq85_5_3, vq85_11_3) => (OwnS 3 1 vq85_4_1 (([x82.1] : List Int).map cI) :: OwnS 3 1 vq85_10_1 (([x82.2.1] : List Int).map cI) :: OwnS 3 1 vq85_16_1 (([x82.2.2.1] : List Int).map cI) :: Bx b84 185 [I x82.1, I x82.2.1, I x82.2.2.1, U x82.2.2.2] :: OwnS 3 1 vq85_5_3 (yq85_5_1.map cI) :: OwnS 3 1 vq85_11_3 (yq85_11_1.map cI) :: OwnS 3 1 v55 (y57.map cI) :: OwnS 28 1 v34 (y36.map cI) :: OwnS 114 2 v37 (y39.map cTii) :: Bx b17 87 [v34, v49, v52, v55, .slice none 0 0] :: Bx b16 183 [v12, v37] :: OwnS 185 4 v12 (y40.map cTiiiiu32) :: Bx b6 87 [.slice none 0 0, .slice none 0 0, .slice none 0 0, .slice none 0 0, .slice none 0 0] :: L)) ?_ fun hSq85_4 => ?_
            · rintro ⟨vq85_4_1, vq85_10_1, vq85_16_1, vq85_5_3, vq85_11_3⟩
              refine TA.all1 (i := 17) (by kernel_rfl) ?_
              · refine TB.of rfl ?_
                refine TO.app (k := 6) (f := cI) kelemB_22_3_1_8_true (by decide) rfl rfl rfl (OwnS.rd (Ent.at 2 rfl)) hkq85_17_2 (fun x c hc => by simp [Value.oneCell'] at hc ⊢; first | (obtain rfl := hc; rfl) | (rcases hc with rfl <;> rfl)) rfl rfl fun vq85_17_3 => ?_
                refine TA.back (.inr (fun _ s => Sat.by [12, 12, 12, 12, 12, 12, 9] 7 6 (by kernel_rfl) s)) ?_
                refine TA.asL (L' := (OwnS 3 1 vq85_4_1 (([x82.1] : List Int).map cI) :: OwnS 3 1 vq85_10_1 (([x82.2.1] : List Int).map cI) :: OwnS 3 1 vq85_16_1 (([x82.2.2.1] : List Int).map cI) :: Bx b84 185 [I x82.1, I x82.2.1, I x82.2.2.1, U x82.2.2.2] :: OwnS 3 1 vq85_5_3 (yq85_5_1.map cI) :: OwnS 3 1 vq85_11_3 (yq85_11_1.map cI) :: OwnS 3 1 vq85_17_3 (yq85_17_1.map cI) :: OwnS 28 1 v34 (y36.map cI) :: OwnS 114 2 v37 (y39.map cTii) :: Bx b17 87 [v34, v49, v52, v55, .slice none 0 0] :: Bx b16 183 [v12, v37] :: OwnS 185 4 v12 (y40.map cTiiiiu32) :: Bx b6 87 [.slice none 0 0, .slice none 0 0, .slice none 0 0, .slice none 0 0, .slice none 0 0] :: L)) (listed' := #[true, true, true, true, true, true, true, true, true, true, true, true, true, true, true, true, true, true, true, false, false, false, false, false]) (by kernel_rfl) (by kernel_rfl) ?_
                exact TA.jump hSq85_3 (vq85_4_1, vq85_10_1, vq85_16_1, vq85_5_3, vq85_11_3, vq85_17_3) rfl (by kernel_rfl) ⟨rfl, rfl, rfl, rfl, rfl, rfl, rfl, rfl, rfl, rfl, trivial⟩ (fun _ s => Sat.by [12, 12, 12, 12, 12, 12, 12, 12, 12, 12, 12, 12, 12] 13 0 (by kernel_rfl) s)
            refine TA.lem (γ := Value × Value × Value × Value) 7 #[true, true, true, true, true, true, true, true, true, true, true, false, true, true, true, true, true, false, true, false, false, false, false, false] (fun (vq85_4_1, vq85_10_1, vq85_16_1, vq85_5_3) => [(4, .pointer (some ⟨b6, 0, none⟩)), (6, .pointer (some ⟨b16, 0, none⟩)), (7, .pointer (some ⟨b17, 0, none⟩)), (44, v12), (45, I (y40.length : Int)), (46, I x58), (55, vq85_5_3), (57, v52), (60, vq85_10_1), (63, v55), (66, vq85_16_1), (68, .pointer (some ⟨b17, 0 + 1, none⟩))]) (fun (vq85_4_1, vq85_10_1, vq85_16_1, vq85_5_3) => (OwnS 3 1 vq85_4_1 (([x82.1] : List Int).map cI) :: OwnS 3 1 vq85_10_1 (([x82.2.1] : List Int).map cI) :: OwnS 3 1 vq85_16_1 (([x82.2.2.1] : List Int).map cI) :: Bx b84 185 [I x82.1, I x82.2.1, I x82.2.2.1, U x82.2.2.2] :: OwnS 3 1 vq85_5_3 (yq85_5_1.map cI) :: OwnS 3 1 v52 (y54.map cI) :: OwnS 3 1 v55 (y57.map cI) :: OwnS 28 1 v34 (y36.map cI) :: OwnS 114 2 v37 (y39.map cTii) :: Bx b17 87 [v34, v49, v52, v55, .slice none 0 0] :: Bx b16 183 [v12, v37] :: OwnS 185 4 v12 (y40.map cTiiiiu32) :: Bx b6 87 [.slice none 0 0, .slice none 0 0, .slice none 0 0, .slice none 0 0, .slice none 0 0] :: L)) ?_ fun hSq85_5 => ?_
            · rintro ⟨vq85_4_1, vq85_10_1, vq85_16_1, vq85_5_3⟩
              refine TA.all1 (i := 11) (by kernel_rfl) ?_
              · refine TB.of rfl ?_
                refine TO.app (k := 5) (f := cI) kelemB_22_3_1_8_true (by decide) rfl rfl rfl (OwnS.rd (Ent.at 1 rfl)) hkq85_11_2 (fun x c hc => by simp [Value.oneCell'] at hc ⊢; first | (obtain rfl := hc; rfl) | (rcases hc with rfl <;> rfl)) rfl rfl fun vq85_11_3 => ?_
                refine TA.back (.inr (fun _ s => Sat.by [12, 12, 12, 12, 12, 12, 9] 7 6 (by kernel_rfl) s)) ?_
                refine TA.asL (L' := (OwnS 3 1 vq85_4_1 (([x82.1] : List Int).map cI) :: OwnS 3 1 vq85_10_1 (([x82.2.1] : List Int).map cI) :: OwnS 3 1 vq85_16_1 (([x82.2.2.1] : List Int).map cI) :: Bx b84 185 [I x82.1, I x82.2.1, I x82.2.2.1, U x82.2.2.2] :: OwnS 3 1 vq85_5_3 (yq85_5_1.map cI) :: OwnS 3 1 vq85_11_3 (yq85_11_1.map cI) :: OwnS 3 1 v55 (y57.map cI) :: OwnS 28 1 v34 (y36.map cI) :: OwnS 114 2 v37 (y39.map cTii) :: Bx b17 87 [v34, v49, v52, v55, .slice none 0 0] :: Bx b16 183 [v12, v37] :: OwnS 185 4 v12 (y40.map cTiiiiu32) :: Bx b6 87 [.slice none 0 0, .slice none 0 0, .slice none 0 0, .slice none 0 0, .slice none 0 0] :: L)) (listed' := #[true, true, true, true, true, true, true, true, true, true, true, true, true, true, true, true, true, false, true, false, false, false, false, false]) (by kernel_rfl) (by kernel_rfl) ?_
                exact TA.jump hSq85_4 (vq85_4_1, vq85_10_1, vq85_16_1, vq85_5_3, vq85_11_3) rfl (by kernel_rfl) ⟨rfl, rfl, rfl, rfl, rfl, rfl, rfl, rfl, rfl, rfl, rfl, trivial⟩ (fun _ s => Sat.by [12, 12, 12, 12, 12, 12, 12, 12, 12, 12, 12, 12, 12] 13 0 (by kernel_rfl) s)
            refine TA.lem (γ := Value × Value × Value × Value) 7 #[true, true, true, true, true, true, true, true, true, true, true, true, true, true, true, true, false, false, true, false, false, false, false, false] (fun (vq85_4_1, vq85_10_1, vq85_5_3, vq85_11_3) => [(4, .pointer (some ⟨b6, 0, none⟩)), (6, .pointer (some ⟨b16, 0, none⟩)), (7, .pointer (some ⟨b17, 0, none⟩)), (44, v12), (45, I (y40.length : Int)), (46, I x58), (55, vq85_5_3), (61, vq85_11_3), (63, v55), (65, I x82.2.2.1), (68, .pointer (some ⟨b17, 0 + 1, none⟩))]) (fun (vq85_4_1, vq85_10_1, vq85_5_3, vq85_11_3) => (OwnS 3 1 vq85_4_1 (([x82.1] : List Int).map cI) :: OwnS 3 1 vq85_10_1 (([x82.2.1] : List Int).map cI) :: Bx b84 185 [I x82.1, I x82.2.1, I x82.2.2.1, U x82.2.2.2] :: OwnS 3 1 vq85_5_3 (yq85_5_1.map cI) :: OwnS 3 1 vq85_11_3 (yq85_11_1.map cI) :: OwnS 3 1 v55 (y57.map cI) :: OwnS 28 1 v34 (y36.map cI) :: OwnS 114 2 v37 (y39.map cTii) :: Bx b17 87 [v34, v49, v52, v55, .slice none 0 0] :: Bx b16 183 [v12, v37] :: OwnS 185 4 v12 (y40.map cTiiiiu32) :: Bx b6 87 [.slice none 0 0, .slice none 0 0, .slice none 0 0, .slice none 0 0, .slice none 0 0] :: L)) ?_ fun hSq85_6 => ?_
            · rintro ⟨vq85_4_1, vq85_10_1, vq85_5_3, vq85_11_3⟩
              refine TA.all1 (i := 16) (by kernel_rfl) ?_
              · refine TB.of rfl ?_
                refine TO.litS (f := cI) ([x82.2.2.1] : List Int) kelemB_22_3_1_8_true kinfo_3_bind_zero_some_I_0 rfl rfl (fun _ => rfl) rfl rfl (by kernel_rfl) rfl fun vq85_16_1 => ?_
                refine TA.back (.inr (fun _ s => Sat.by [12, 12, 12, 12, 12, 12, 9] 7 6 (by kernel_rfl) s)) ?_
                refine TA.asL (L' := (OwnS 3 1 vq85_16_1 (([x82.2.2.1] : List Int).map cI) :: OwnS 3 1 vq85_4_1 (([x82.1] : List Int).map cI) :: OwnS 3 1 vq85_10_1 (([x82.2.1] : List Int).map cI) :: Bx b84 185 [I x82.1, I x82.2.1, I x82.2.2.1, U x82.2.2.2] :: OwnS 3 1 vq85_5_3 (yq85_5_1.map cI) :: OwnS 3 1 vq85_11_3 (yq85_11_1.map cI) :: OwnS 3 1 v55 (y57.map cI) :: OwnS 28 1 v34 (y36.map cI) :: OwnS 114 2 v37 (y39.map cTii) :: Bx b17 87 [v34, v49, v52, v55, .slice none 0 0] :: Bx b16 183 [v12, v37] :: OwnS 185 4 v12 (y40.map cTiiiiu32) :: Bx b6 87 [.slice none 0 0, .slice none 0 0, .slice none 0 0, .slice none 0 0, .slice none 0 0] :: L)) (listed' := #[true, true, true, true, true, true, true, true, true, true, true, true, true, true, true, true, true, false, true, false, false, false, false, false]) (by kernel_rfl) (by kernel_rfl) ?_
                exact TA.jump hSq85_4 (vq85_4_1, vq85_10_1, vq85_16_1, vq85_5_3, vq85_11_3) rfl (by kernel_rfl) ⟨rfl, rfl, rfl, rfl, rfl, rfl, rfl, rfl, rfl, rfl, rfl, trivial⟩ (fun _ s => Sat.by [12, 12, 12, 12, 12, 12, 12, 12, 12, 12, 10, 12, 12] 13 0 (by kernel_rfl) s)
            refine TA.lem (γ := Value × Value × Value) 8 #[true, true, true, true, true, true, true, true, true, true, false, false, true, true, true, true, true, false, true, false, false, false, false, false] (fun (vq85_4_1, vq85_16_1, vq85_5_3) => [(4, .pointer (some ⟨b6, 0, none⟩)), (6, .pointer (some ⟨b16, 0, none⟩)), (7, .pointer (some ⟨b17, 0, none⟩)), (44, v12), (45, I (y40.length : Int)), (46, I x58), (55, vq85_5_3), (57, v52), (59, I x82.2.1), (63, v55), (66, vq85_16_1), (68, .pointer (some ⟨b17, 0 + 1, none⟩))]) (fun (vq85_4_1, vq85_16_1, vq85_5_3) => (OwnS 3 1 vq85_4_1 (([x82.1] : List Int).map cI) :: OwnS 3 1 vq85_16_1 (([x82.2.2.1] : List Int).map cI) :: Bx b84 185 [I x82.1, I x82.2.1, I x82.2.2.1, U x82.2.2.2] :: OwnS 3 1 vq85_5_3 (yq85_5_1.map cI) :: OwnS 3 1 v52 (y54.map cI) :: OwnS 3 1 v55 (y57.map cI) :: OwnS 28 1 v34 (y36.map cI) :: OwnS 114 2 v37 (y39.map cTii) :: Bx b17 87 [v34, v49, v52, v55, .slice none 0 0] :: Bx b16 183 [v12, v37] :: OwnS 185 4 v12 (y40.map cTiiiiu32) :: Bx b6 87 [.slice none 0 0, .slice none 0 0, .slice none 0 0, .slice none 0 0, .slice none 0 0] :: L)) ?_ fun hSq85_7 => ?_
            · rintro ⟨vq85_4_1, vq85_16_1, vq85_5_3⟩
              refine TA.all1 (i := 10) (by kernel_rfl) ?_
              · refine TB.of rfl ?_
                refine TO.litS (f := cI) ([x82.2.1] : List Int) kelemB_22_3_1_8_true kinfo_3_bind_zero_some_I_0 rfl rfl (fun _ => rfl) rfl rfl (by kernel_rfl) rfl fun vq85_10_1 => ?_
                refine TA.back (.inr (fun _ s => Sat.by [12, 12, 12, 12, 12, 12, 9] 7 6 (by kernel_rfl) s)) ?_
                refine TA.asL (L' := (OwnS 3 1 vq85_10_1 (([x82.2.1] : List Int).map cI) :: OwnS 3 1 vq85_4_1 (([x82.1] : List Int).map cI) :: OwnS 3 1 vq85_16_1 (([x82.2.2.1] : List Int).map cI) :: Bx b84 185 [I x82.1, I x82.2.1, I x82.2.2.1, U x82.2.2.2] :: OwnS 3 1 vq85_5_3 (yq85_5_1.map cI) :: OwnS 3 1 v52 (y54.map cI) :: OwnS 3 1 v55 (y57.map cI) :: OwnS 28 1 v34 (y36.map cI) :: OwnS 114 2 v37 (y39.map cTii) :: Bx b17 87 [v34, v49, v52, v55, .slice none 0 0] :: Bx b16 183 [v12, v37] :: OwnS 185 4 v12 (y40.map cTiiiiu32) :: Bx b6 87 [.slice none 0 0, .slice none 0 0, .slice none 0 0, .slice none 0 0, .slice none 0 0] :: L)) (listed' := #[true, true, true, true, true, true, true, true, true, true, true, false, true, true, true, true, true, false, true, false, false, false, false, false]) (by kernel_rfl) (by kernel_rfl) ?_
                exact TA.jump hSq85_5 (vq85_4_1, vq85_10_1, vq85_16_1, vq85_5_3) rfl (by kernel_rfl) ⟨rfl, rfl, rfl, rfl, rfl, rfl, rfl, rfl, rfl, rfl, rfl, rfl, trivial⟩ (fun _ s => Sat.by [12, 12, 12, 12, 12, 12, 12, 12, 12, 12, 12, 11, 12] 13 0 (by kernel_rfl) s)
            refine TA.lem (γ := Value × Value × Value) 8 #[true, true, true, true, true, true, true, true, true, true, true, false, true, true, true, true, false, false, true, false, false, false, false, false] (fun (vq85_4_1, vq85_10_1, vq85_5_3) => [(4, .pointer (some ⟨b6, 0, none⟩)), (6, .pointer (some ⟨b16, 0, none⟩)), (7, .pointer (some ⟨b17, 0, none⟩)), (44, v12), (45, I (y40.length : Int)), (46, I x58), (55, vq85_5_3), (57, v52), (60, vq85_10_1), (63, v55), (65, I x82.2.2.1), (68, .pointer (some ⟨b17, 0 + 1, none⟩))]) (fun (vq85_4_1, vq85_10_1, vq85_5_3) => (OwnS 3 1 vq85_4_1 (([x82.1] : List Int).map cI) :: OwnS 3 1 vq85_10_1 (([x82.2.1] : List Int).map cI) :: Bx b84 185 [I x82.1, I x82.2.1, I x82.2.2.1, U x82.2.2.2] :: OwnS 3 1 vq85_5_3 (yq85_5_1.map cI) :: OwnS 3 1 v52 (y54.map cI) :: OwnS 3 1 v55 (y57.map cI) :: OwnS 28 1 v34 (y36.map cI) :: OwnS 114 2 v37 (y39.map cTii) :: Bx b17 87 [v34, v49, v52, v55, .slice none 0 0] :: Bx b16 183 [v12, v37] :: OwnS 185 4 v12 (y40.map cTiiiiu32) :: Bx b6 87 [.slice none 0 0, .slice none 0 0, .slice none 0 0, .slice none 0 0, .slice none 0 0] :: L)) ?_ fun hSq85_8 => ?_
            · rintro ⟨vq85_4_1, vq85_10_1, vq85_5_3⟩
              refine TA.all2 (i := 11) (j := 16) (by kernel_rfl) ?_ ?_
              · refine TB.of rfl ?_
                refine TO.app (k := 4) (f := cI) kelemB_22_3_1_8_true (by decide) rfl rfl rfl (OwnS.rd (Ent.at 1 rfl)) hkq85_11_2 (fun x c hc => by simp [Value.oneCell'] at hc ⊢; first | (obtain rfl := hc; rfl) | (rcases hc with rfl <;> rfl)) rfl rfl fun vq85_11_3 => ?_
                refine TA.back (.inr (fun _ s => Sat.by [11, 11, 11, 11, 11, 11, 8] 7 5 (by kernel_rfl) s)) ?_
                refine TA.asL (L' := (OwnS 3 1 vq85_4_1 (([x82.1] : List Int).map cI) :: OwnS 3 1 vq85_10_1 (([x82.2.1] : List Int).map cI) :: Bx b84 185 [I x82.1, I x82.2.1, I x82.2.2.1, U x82.2.2.2] :: OwnS 3 1 vq85_5_3 (yq85_5_1.map cI) :: OwnS 3 1 vq85_11_3 (yq85_11_1.map cI) :: OwnS 3 1 v55 (y57.map cI) :: OwnS 28 1 v34 (y36.map cI) :: OwnS 114 2 v37 (y39.map cTii) :: Bx b17 87 [v34, v49, v52, v55, .slice none 0 0] :: Bx b16 183 [v12, v37] :: OwnS 185 4 v12 (y40.map cTiiiiu32) :: Bx b6 87 [.slice none 0 0, .slice none 0 0, .slice none 0 0, .slice none 0 0, .slice none 0 0] :: L)) (listed' := #[true, true, true, true, true, true, true, true, true, true, true, true, true, true, true, true, false, false, true, false, false, false, false, false]) (by kernel_rfl) (by kernel_rfl) ?_
                exact TA.jump hSq85_6 (vq85_4_1, vq85_10_1, vq85_5_3, vq85_11_3) rfl (by kernel_rfl) ⟨rfl, rfl, rfl, rfl, rfl, rfl, rfl, rfl, rfl, rfl, rfl, trivial⟩ (fun _ s => Sat.by [11, 11, 11, 11, 11, 11, 11, 11, 11, 11, 11, 11] 12 0 (by kernel_rfl) s)
              · refine TB.of rfl ?_
                refine TO.litS (f := cI) ([x82.2.2.1] : List Int) kelemB_22_3_1_8_true kinfo_3_bind_zero_some_I_0 rfl rfl (fun _ => rfl) rfl rfl (by kernel_rfl) rfl fun vq85_16_1 => ?_
                refine TA.back (.inr (fun _ s => Sat.by [12, 12, 12, 12, 12, 12, 9] 7 6 (by kernel_rfl) s)) ?_
                refine TA.asL (L' := (OwnS 3 1 vq85_16_1 (([x82.2.2.1] : List Int).map cI) :: OwnS 3 1 vq85_4_1 (([x82.1] : List Int).map cI) :: OwnS 3 1 vq85_10_1 (([x82.2.1] : List Int).map cI) :: Bx b84 185 [I x82.1, I x82.2.1, I x82.2.2.1, U x82.2.2.2] :: OwnS 3 1 vq85_5_3 (yq85_5_1.map cI) :: OwnS 3 1 v52 (y54.map cI) :: OwnS 3 1 v55 (y57.map cI) :: OwnS 28 1 v34 (y36.map cI) :: OwnS 114 2 v37 (y39.map cTii) :: Bx b17 87 [v34, v49, v52, v55, .slice none 0 0] :: Bx b16 183 [v12, v37] :: OwnS 185 4 v12 (y40.map cTiiiiu32) :: Bx b6 87 [.slice none 0 0, .slice none 0 0, .slice none 0 0, .slice none 0 0, .slice none 0 0] :: L)) (listed' := #[true, true, true, true, true, true, true, true, true, true, true, false, true, true, true, true, true, false, true, false, false, false, false, false]) (by kernel_rfl) (by kernel_rfl) ?_
                exact TA.jump hSq85_5 (vq85_4_1, vq85_10_1, vq85_16_1, vq85_5_3) rfl (by kernel_rfl) ⟨rfl, rfl, rfl, rfl, rfl, rfl, rfl, rfl, rfl, rfl, rfl, rfl, trivial⟩ (fun _ s => Sat.by [12, 12, 12, 12, 12, 12, 12, 12, 12, 12, 10, 12, 12] 13 0 (by kernel_rfl) s)
            refine TA.lem (γ := Value × Value × Value × Value) 8 #[true, true, true, true, true, true, true, true, true, true, true, true, true, true, true, false, false, false, true, false, false, false, false, false] (fun (vq85_4_1, vq85_10_1, vq85_5_3, vq85_11_3) => [(4, .pointer (some ⟨b6, 0, none⟩)), (6, .pointer (some ⟨b16, 0, none⟩)), (7, .pointer (some ⟨b17, 0, none⟩)), (44, v12), (45, I (y40.length : Int)), (46, I x58), (55, vq85_5_3), (61, vq85_11_3), (63, v55), (64, .pointer (some ⟨b84, 0 + 2, none⟩)), (68, .pointer (some ⟨b17, 0 + 1, none⟩))]) (fun (vq85_4_1, vq85_10_1, vq85_5_3, vq85_11_3) => (OwnS 3 1 vq85_4_1 (([x82.1] : List Int).map cI) :: OwnS 3 1 vq85_10_1 (([x82.2.1] : List Int).map cI) :: Bx b84 185 [I x82.1, I x82.2.1, I x82.2.2.1, U x82.2.2.2] :: OwnS 3 1 vq85_5_3 (yq85_5_1.map cI) :: OwnS 3 1 vq85_11_3 (yq85_11_1.map cI) :: OwnS 3 1 v55 (y57.map cI) :: OwnS 28 1 v34 (y36.map cI) :: OwnS 114 2 v37 (y39.map cTii) :: Bx b17 87 [v34, v49, v52, v55, .slice none 0 0] :: Bx b16 183 [v12, v37] :: OwnS 185 4 v12 (y40.map cTiiiiu32) :: Bx b6 87 [.slice none 0 0, .slice none 0 0, .slice none 0 0, .slice none 0 0, .slice none 0 0] :: L)) ?_ fun hSq85_9 => ?_
            · rintro ⟨vq85_4_1, vq85_10_1, vq85_5_3, vq85_11_3⟩
              refine TA.all1 (i := 15) (by kernel_rfl) ?_
              · refine TB.of rfl ?_
                refine TO.s rfl rfl rfl (StepS.ldB rfl (Ent.at 2 rfl) kscalB_3_true rfl) ?_
                refine TA.back (.inr (fun _ s => Sat.by [11, 11, 11, 11, 11, 11, 8] 7 5 (by kernel_rfl) s)) ?_
                refine TA.asL (L' := (OwnS 3 1 vq85_4_1 (([x82.1] : List Int).map cI) :: OwnS 3 1 vq85_10_1 (([x82.2.1] : List Int).map cI) :: Bx b84 185 [I x82.1, I x82.2.1, I x82.2.2.1, U x82.2.2.2] :: OwnS 3 1 vq85_5_3 (yq85_5_1.map cI) :: OwnS 3 1 vq85_11_3 (yq85_11_1.map cI) :: OwnS 3 1 v55 (y57.map cI) :: OwnS 28 1 v34 (y36.map cI) :: OwnS 114 2 v37 (y39.map cTii) :: Bx b17 87 [v34, v49, v52, v55, .slice none 0 0] :: Bx b16 183 [v12, v37] :: OwnS 185 4 v12 (y40.map cTiiiiu32) :: Bx b6 87 [.slice none 0 0, .slice none 0 0, .slice none 0 0, .slice none 0 0, .slice none 0 0] :: L)) (listed' := #[true, true, true, true, true, true, true, true, true, true, true, true, true, true, true, true, false, false, true, false, false, false, false, false]) (by kernel_rfl) (by kernel_rfl) ?_
                exact TA.jump hSq85_6 (vq85_4_1, vq85_10_1, vq85_5_3, vq85_11_3) rfl (by kernel_rfl) ⟨rfl, rfl, rfl, rfl, rfl, rfl, rfl, rfl, rfl, rfl, rfl, trivial⟩ (fun _ s => Sat.by [11, 11, 11, 11, 11, 11, 11, 11, 11, 11, 11, 11] 12 0 (by kernel_rfl) s)
            refine TA.lem (γ := Value × Value × Value) 9 #[true, true, true, true, true, false, true, true, true, true, true, false, true, true, true, true, true, false, false, false, false, false, false, false] (fun (vq85_4_1, vq85_10_1, vq85_16_1) => [(4, .pointer (some ⟨b6, 0, none⟩)), (6, .pointer (some ⟨b16, 0, none⟩)), (7, .pointer (some ⟨b17, 0, none⟩)), (44, v12), (45, I (y40.length : Int)), (46, I x58), (51, v49), (54, vq85_4_1), (57, v52), (60, vq85_10_1), (63, v55), (66, vq85_16_1)]) (fun (vq85_4_1, vq85_10_1, vq85_16_1) => (OwnS 3 1 vq85_4_1 (([x82.1] : List Int).map cI) :: OwnS 3 1 vq85_10_1 (([x82.2.1] : List Int).map cI) :: OwnS 3 1 vq85_16_1 (([x82.2.2.1] : List Int).map cI) :: Bx b84 185 [I x82.1, I x82.2.1, I x82.2.2.1, U x82.2.2.2] :: OwnS 3 1 v49 (y51.map cI) :: OwnS 3 1 v52 (y54.map cI) :: OwnS 3 1 v55 (y57.map cI) :: OwnS 28 1 v34 (y36.map cI) :: OwnS 114 2 v37 (y39.map cTii) :: Bx b17 87 [v34, v49, v52, v55, .slice none 0 0] :: Bx b16 183 [v12, v37] :: OwnS 185 4 v12 (y40.map cTiiiiu32) :: Bx b6 87 [.slice none 0 0, .slice none 0 0, .slice none 0 0, .slice none 0 0, .slice none 0 0] :: L)) ?_ fun hSq85_10 => ?_
            · rintro ⟨vq85_4_1, vq85_10_1, vq85_16_1⟩
              refine TA.all1 (i := 5) (by kernel_rfl) ?_
              · refine TB.of rfl ?_
                refine TO.app (k := 4) (f := cI) kelemB_22_3_1_8_true (by decide) rfl rfl rfl (OwnS.rd (Ent.at 0 rfl)) hkq85_5_2 (fun x c hc => by simp [Value.oneCell'] at hc ⊢; first | (obtain rfl := hc; rfl) | (rcases hc with rfl <;> rfl)) rfl rfl fun vq85_5_3 => ?_
                refine TA.back (.inr (fun _ s => Sat.by [12, 12, 12, 12, 12, 12, 9] 7 6 (by kernel_rfl) s)) ?_
                refine TA.asL (L' := (OwnS 3 1 vq85_4_1 (([x82.1] : List Int).map cI) :: OwnS 3 1 vq85_10_1 (([x82.2.1] : List Int).map cI) :: OwnS 3 1 vq85_16_1 (([x82.2.2.1] : List Int).map cI) :: Bx b84 185 [I x82.1, I x82.2.1, I x82.2.2.1, U x82.2.2.2] :: OwnS 3 1 vq85_5_3 (yq85_5_1.map cI) :: OwnS 3 1 v52 (y54.map cI) :: OwnS 3 1 v55 (y57.map cI) :: OwnS 28 1 v34 (y36.map cI) :: OwnS 114 2 v37 (y39.map cTii) :: Bx b17 87 [v34, v49, v52, v55, .slice none 0 0] :: Bx b16 183 [v12, v37] :: OwnS 185 4 v12 (y40.map cTiiiiu32) :: Bx b6 87 [.slice none 0 0, .slice none 0 0, .slice none 0 0, .slice none 0 0, .slice none 0 0] :: L)) (listed' := #[true, true, true, true, true, true, true, true, true, true, true, false, true, true, true, true, true, false, false, false, false, false, false, false]) (by kernel_rfl) (by kernel_rfl) ?_
                refine TA.takeW 18 rfl rfl rfl rfl (StepS.fld rfl kfieldB_87_1_1_true) (by kernel_rfl) (by kernel_rfl) (by kernel_rfl) rfl (.inr (fun _ s => Sat.by [12, 12, 12, 12, 12, 12, 9] 7 6 (by kernel_rfl) s)) ?_
                exact TA.jump hSq85_5 (vq85_4_1, vq85_10_1, vq85_16_1, vq85_5_3) rfl (by kernel_rfl) ⟨rfl, rfl, rfl, rfl, rfl, rfl, rfl, rfl, rfl, rfl, rfl, rfl, trivial⟩ (fun _ s => Sat.by [12, 12, 12, 12, 12, 12, 12, 12, 12, 12, 12, 12, 12] 13 0 (by kernel_rfl) s)
            refine TA.lem (γ := Value × Value × Value) 9 #[true, true, true, true, true, true, true, true, true, false, false, false, true, true, true, true, true, false, true, false, false, false, false, false] (fun (vq85_4_1, vq85_16_1, vq85_5_3) => [(4, .pointer (some ⟨b6, 0, none⟩)), (6, .pointer (some ⟨b16, 0, none⟩)), (7, .pointer (some ⟨b17, 0, none⟩)), (44, v12), (45, I (y40.length : Int)), (46, I x58), (55, vq85_5_3), (57, v52), (58, .pointer (some ⟨b84, 0 + 1, none⟩)), (63, v55), (66, vq85_16_1), (68, .pointer (some ⟨b17, 0 + 1, none⟩))]) (fun (vq85_4_1, vq85_16_1, vq85_5_3) => (OwnS 3 1 vq85_4_1 (([x82.1] : List Int).map cI) :: OwnS 3 1 vq85_16_1 (([x82.2.2.1] : List Int).map cI) :: Bx b84 185 [I x82.1, I x82.2.1, I x82.2.2.1, U x82.2.2.2] :: OwnS 3 1 vq85_5_3 (yq85_5_1.map cI) :: OwnS 3 1 v52 (y54.map cI) :: OwnS 3 1 v55 (y57.map cI) :: OwnS 28 1 v34 (y36.map cI) :: OwnS 114 2 v37 (y39.map cTii) :: Bx b17 87 [v34, v49, v52, v55, .slice none 0 0] :: Bx b16 183 [v12, v37] :: OwnS 185 4 v12 (y40.map cTiiiiu32) :: Bx b6 87 [.slice none 0 0, .slice none 0 0, .slice none 0 0, .slice none 0 0, .slice none 0 0] :: L)) ?_ fun hSq85_11 => ?_
            · rintro ⟨vq85_4_1, vq85_16_1, vq85_5_3⟩
              refine TA.all1 (i := 9) (by kernel_rfl) ?_
              · refine TB.of rfl ?_
                refine TO.s rfl rfl rfl (StepS.ldB rfl (Ent.at 2 rfl) kscalB_3_true rfl) ?_
                refine TA.back (.inr (fun _ s => Sat.by [11, 11, 11, 11, 11, 11, 8] 7 5 (by kernel_rfl) s)) ?_
                refine TA.asL (L' := (OwnS 3 1 vq85_4_1 (([x82.1] : List Int).map cI) :: OwnS 3 1 vq85_16_1 (([x82.2.2.1] : List Int).map cI) :: Bx b84 185 [I x82.1, I x82.2.1, I x82.2.2.1, U x82.2.2.2] :: OwnS 3 1 vq85_5_3 (yq85_5_1.map cI) :: OwnS 3 1 v52 (y54.map cI) :: OwnS 3 1 v55 (y57.map cI) :: OwnS 28 1 v34 (y36.map cI) :: OwnS 114 2 v37 (y39.map cTii) :: Bx b17 87 [v34, v49, v52, v55, .slice none 0 0] :: Bx b16 183 [v12, v37] :: OwnS 185 4 v12 (y40.map cTiiiiu32) :: Bx b6 87 [.slice none 0 0, .slice none 0 0, .slice none 0 0, .slice none 0 0, .slice none 0 0] :: L)) (listed' := #[true, true, true, true, true, true, true, true, true, true, false, false, true, true, true, true, true, false, true, false, false, false, false, false]) (by kernel_rfl) (by kernel_rfl) ?_
                exact TA.jump hSq85_7 (vq85_4_1, vq85_16_1, vq85_5_3) rfl (by kernel_rfl) ⟨rfl, rfl, rfl, rfl, rfl, rfl, rfl, rfl, rfl, rfl, rfl, rfl, trivial⟩ (fun _ s => Sat.by [11, 11, 11, 11, 11, 11, 11, 11, 11, 11, 11, 11] 12 0 (by kernel_rfl) s)
            refine TA.lem (γ := Value × Value) 9 #[true, true, true, true, true, true, true, true, true, true, false, false, true, true, true, true, false, false, true, false, false, false, false, false] (fun (vq85_4_1, vq85_5_3) => [(4, .pointer (some ⟨b6, 0, none⟩)), (6, .pointer (some ⟨b16, 0, none⟩)), (7, .pointer (some ⟨b17, 0, none⟩)), (44, v12), (45, I (y40.length : Int)), (46, I x58), (55, vq85_5_3), (57, v52), (59, I x82.2.1), (63, v55), (65, I x82.2.2.1), (68, .pointer (some ⟨b17, 0 + 1, none⟩))]) (fun (vq85_4_1, vq85_5_3) => (OwnS 3 1 vq85_4_1 (([x82.1] : List Int).map cI) :: Bx b84 185 [I x82.1, I x82.2.1, I x82.2.2.1, U x82.2.2.2] :: OwnS 3 1 vq85_5_3 (yq85_5_1.map cI) :: OwnS 3 1 v52 (y54.map cI) :: OwnS 3 1 v55 (y57.map cI) :: OwnS 28 1 v34 (y36.map cI) :: OwnS 114 2 v37 (y39.map cTii) :: Bx b17 87 [v34, v49, v52, v55, .slice none 0 0] :: Bx b16 183 [v12, v37] :: OwnS 185 4 v12 (y40.map cTiiiiu32) :: Bx b6 87 [.slice none 0 0, .slice none 0 0, .slice none 0 0, .slice none 0 0, .slice none 0 0] :: L)) ?_ fun hSq85_12 => ?_
            · rintro ⟨vq85_4_1, vq85_5_3⟩
              refine TA.all2 (i := 10) (j := 16) (by kernel_rfl) ?_ ?_
              · refine TB.of rfl ?_
                refine TO.litS (f := cI) ([x82.2.1] : List Int) kelemB_22_3_1_8_true kinfo_3_bind_zero_some_I_0 rfl rfl (fun _ => rfl) rfl rfl (by kernel_rfl) rfl fun vq85_10_1 => ?_
                refine TA.back (.inr (fun _ s => Sat.by [11, 11, 11, 11, 11, 11, 8] 7 5 (by kernel_rfl) s)) ?_
                refine TA.asL (L' := (OwnS 3 1 vq85_10_1 (([x82.2.1] : List Int).map cI) :: OwnS 3 1 vq85_4_1 (([x82.1] : List Int).map cI) :: Bx b84 185 [I x82.1, I x82.2.1, I x82.2.2.1, U x82.2.2.2] :: OwnS 3 1 vq85_5_3 (yq85_5_1.map cI) :: OwnS 3 1 v52 (y54.map cI) :: OwnS 3 1 v55 (y57.map cI) :: OwnS 28 1 v34 (y36.map cI) :: OwnS 114 2 v37 (y39.map cTii) :: Bx b17 87 [v34, v49, v52, v55, .slice none 0 0] :: Bx b16 183 [v12, v37] :: OwnS 185 4 v12 (y40.map cTiiiiu32) :: Bx b6 87 [.slice none 0 0, .slice none 0 0, .slice none 0 0, .slice none 0 0, .slice none 0 0] :: L)) (listed' := #[true, true, true, true, true, true, true, true, true, true, true, false, true, true, true, true, false, false, true, false, false, false, false, false]) (by kernel_rfl) (by kernel_rfl) ?_
                exact TA.jump hSq85_8 (vq85_4_1, vq85_10_1, vq85_5_3) rfl (by kernel_rfl) ⟨rfl, rfl, rfl, rfl, rfl, rfl, rfl, rfl, rfl, rfl, rfl, rfl, trivial⟩ (fun _ s => Sat.by [11, 11, 11, 11, 11, 11, 11, 11, 11, 11, 10, 11] 12 0 (by kernel_rfl) s)
              · refine TB.of rfl ?_
                refine TO.litS (f := cI) ([x82.2.2.1] : List Int) kelemB_22_3_1_8_true kinfo_3_bind_zero_some_I_0 rfl rfl (fun _ => rfl) rfl rfl (by kernel_rfl) rfl fun vq85_16_1 => ?_
                refine TA.back (.inr (fun _ s => Sat.by [11, 11, 11, 11, 11, 11, 8] 7 5 (by kernel_rfl) s)) ?_
                refine TA.asL (L' := (OwnS 3 1 vq85_16_1 (([x82.2.2.1] : List Int).map cI) :: OwnS 3 1 vq85_4_1 (([x82.1] : List Int).map cI) :: Bx b84 185 [I x82.1, I x82.2.1, I x82.2.2.1, U x82.2.2.2] :: OwnS 3 1 vq85_5_3 (yq85_5_1.map cI) :: OwnS 3 1 v52 (y54.map cI) :: OwnS 3 1 v55 (y57.map cI) :: OwnS 28 1 v34 (y36.map cI) :: OwnS 114 2 v37 (y39.map cTii) :: Bx b17 87 [v34, v49, v52, v55, .slice none 0 0] :: Bx b16 183 [v12, v37] :: OwnS 185 4 v12 (y40.map cTiiiiu32) :: Bx b6 87 [.slice none 0 0, .slice none 0 0, .slice none 0 0, .slice none 0 0, .slice none 0 0] :: L)) (listed' := #[true, true, true, true, true, true, true, true, true, true, false, false, true, true, true, true, true, false, true, false, false, false, false, false]) (by kernel_rfl) (by kernel_rfl) ?_
                exact TA.jump hSq85_7 (vq85_4_1, vq85_16_1, vq85_5_3) rfl (by kernel_rfl) ⟨rfl, rfl, rfl, rfl, rfl, rfl, rfl, rfl, rfl, rfl, rfl, rfl, trivial⟩ (fun _ s => Sat.by [11, 11, 11, 11, 11, 11, 11, 11, 11, 11, 10, 11] 12 0 (by kernel_rfl) s)
            refine TA.lem (γ := Value × Value × Value) 9 #[true, true, true, true, true, true, true, true, true, true, true, false, true, true, true, false, false, false, true, false, false, false, false, false] (fun (vq85_4_1, vq85_10_1, vq85_5_3) => [(4, .pointer (some ⟨b6, 0, none⟩)), (6, .pointer (some ⟨b16, 0, none⟩)), (7, .pointer (some ⟨b17, 0, none⟩)), (44, v12), (45, I (y40.length : Int)), (46, I x58), (55, vq85_5_3), (57, v52), (60, vq85_10_1), (63, v55), (64, .pointer (some ⟨b84, 0 + 2, none⟩)), (68, .pointer (some ⟨b17, 0 + 1, none⟩))]) (fun (vq85_4_1, vq85_10_1, vq85_5_3) => (OwnS 3 1 vq85_4_1 (([x82.1] : List Int).map cI) :: OwnS 3 1 vq85_10_1 (([x82.2.1] : List Int).map cI) :: Bx b84 185 [I x82.1, I x82.2.1, I x82.2.2.1, U x82.2.2.2] :: OwnS 3 1 vq85_5_3 (yq85_5_1.map cI) :: OwnS 3 1 v52 (y54.map cI) :: OwnS 3 1 v55 (y57.map cI) :: OwnS 28 1 v34 (y36.map cI) :: OwnS 114 2 v37 (y39.map cTii) :: Bx b17 87 [v34, v49, v52, v55, .slice none 0 0] :: Bx b16 183 [v12, v37] :: OwnS 185 4 v12 (y40.map cTiiiiu32) :: Bx b6 87 [.slice none 0 0, .slice none 0 0, .slice none 0 0, .slice none 0 0, .slice none 0 0] :: L)) ?_ fun hSq85_13 => ?_
            · rintro ⟨vq85_4_1, vq85_10_1, vq85_5_3⟩
              refine TA.all2 (i := 11) (j := 15) (by kernel_rfl) ?_ ?_
              · refine TB.of rfl ?_
                refine TO.app (k := 4) (f := cI) kelemB_22_3_1_8_true (by decide) rfl rfl rfl (OwnS.rd (Ent.at 1 rfl)) hkq85_11_2 (fun x c hc => by simp [Value.oneCell'] at hc ⊢; first | (obtain rfl := hc; rfl) | (rcases hc with rfl <;> rfl)) rfl rfl fun vq85_11_3 => ?_
                refine TA.back (.inr (fun _ s => Sat.by [11, 11, 11, 11, 11, 11, 8] 7 5 (by kernel_rfl) s)) ?_
                refine TA.asL (L' := (OwnS 3 1 vq85_4_1 (([x82.1] : List Int).map cI) :: OwnS 3 1 vq85_10_1 (([x82.2.1] : List Int).map cI) :: Bx b84 185 [I x82.1, I x82.2.1, I x82.2.2.1, U x82.2.2.2] :: OwnS 3 1 vq85_5_3 (yq85_5_1.map cI) :: OwnS 3 1 vq85_11_3 (yq85_11_1.map cI) :: OwnS 3 1 v55 (y57.map cI) :: OwnS 28 1 v34 (y36.map cI) :: OwnS 114 2 v37 (y39.map cTii) :: Bx b17 87 [v34, v49, v52, v55, .slice none 0 0] :: Bx b16 183 [v12, v37] :: OwnS 185 4 v12 (y40.map cTiiiiu32) :: Bx b6 87 [.slice none 0 0, .slice none 0 0, .slice none 0 0, .slice none 0 0, .slice none 0 0] :: L)) (listed' := #[true, true, true, true, true, true, true, true, true, true, true, true, true, true, true, false, false, false, true, false, false, false, false, false]) (by kernel_rfl) (by kernel_rfl) ?_
                exact TA.jump hSq85_9 (vq85_4_1, vq85_10_1, vq85_5_3, vq85_11_3) rfl (by kernel_rfl) ⟨rfl, rfl, rfl, rfl, rfl, rfl, rfl, rfl, rfl, rfl, rfl, trivial⟩ (fun _ s => Sat.by [11, 11, 11, 11, 11, 11, 11, 11, 11, 11, 11, 11] 12 0 (by kernel_rfl) s)
              · refine TB.of rfl ?_
                refine TO.s rfl rfl rfl (StepS.ldB rfl (Ent.at 2 rfl) kscalB_3_true rfl) ?_
                refine TA.back (.inr (fun _ s => Sat.by [11, 11, 11, 11, 11, 11, 8] 7 5 (by kernel_rfl) s)) ?_
                refine TA.asL (L' := (OwnS 3 1 vq85_4_1 (([x82.1] : List Int).map cI) :: OwnS 3 1 vq85_10_1 (([x82.2.1] : List Int).map cI) :: Bx b84 185 [I x82.1, I x82.2.1, I x82.2.2.1, U x82.2.2.2] :: OwnS 3 1 vq85_5_3 (yq85_5_1.map cI) :: OwnS 3 1 v52 (y54.map cI) :: OwnS 3 1 v55 (y57.map cI) :: OwnS 28 1 v34 (y36.map cI) :: OwnS 114 2 v37 (y39.map cTii) :: Bx b17 87 [v34, v49, v52, v55, .slice none 0 0] :: Bx b16 183 [v12, v37] :: OwnS 185 4 v12 (y40.map cTiiiiu32) :: Bx b6 87 [.slice none 0 0, .slice none 0 0, .slice none 0 0, .slice none 0 0, .slice none 0 0] :: L)) (listed' := #[true, true, true, true, true, true, true, true, true, true, true, false, true, true, true, true, false, false, true, false, false, false, false, false]) (by kernel_rfl) (by kernel_rfl) ?_
                exact TA.jump hSq85_8 (vq85_4_1, vq85_10_1, vq85_5_3) rfl (by kernel_rfl) ⟨rfl, rfl, rfl, rfl, rfl, rfl, rfl, rfl, rfl, rfl, rfl, rfl, trivial⟩ (fun _ s => Sat.by [11, 11, 11, 11, 11, 11, 11, 11, 11, 11, 11, 11] 12 0 (by kernel_rfl) s)
            refine TA.lem (γ := Value × Value) 10 #[true, true, true, true, true, false, true, true, true, true, false, false, true, true, true, true, true, false, false, false, false, false, false, false] (fun (vq85_4_1, vq85_16_1) => [(4, .pointer (some ⟨b6, 0, none⟩)), (6, .pointer (some ⟨b16, 0, none⟩)), (7, .pointer (some ⟨b17, 0, none⟩)), (44, v12), (45, I (y40.length : Int)), (46, I x58), (51, v49), (54, vq85_4_1), (57, v52), (59, I x82.2.1), (63, v55), (66, vq85_16_1)]) (fun (vq85_4_1, vq85_16_1) => (OwnS 3 1 vq85_4_1 (([x82.1] : List Int).map cI) :: OwnS 3 1 vq85_16_1 (([x82.2.2.1] : List Int).map cI) :: Bx b84 185 [I x82.1, I x82.2.1, I x82.2.2.1, U x82.2.2.2] :: OwnS 3 1 v49 (y51.map cI) :: OwnS 3 1 v52 (y54.map cI) :: OwnS 3 1 v55 (y57.map cI) :: OwnS 28 1 v34 (y36.map cI) :: OwnS 114 2 v37 (y39.map cTii) :: Bx b17 87 [v34, v49, v52, v55, .slice none 0 0] :: Bx b16 183 [v12, v37] :: OwnS 185 4 v12 (y40.map cTiiiiu32) :: Bx b6 87 [.slice none 0 0, .slice none 0 0, .slice none 0 0, .slice none 0 0, .slice none 0 0] :: L)) ?_ fun hSq85_14 => ?_
            · rintro ⟨vq85_4_1, vq85_16_1⟩
              refine TA.all2 (i := 5) (j := 10) (by kernel_rfl) ?_ ?_
              · refine TB.of rfl ?_
                refine TO.app (k := 3) (f := cI) kelemB_22_3_1_8_true (by decide) rfl rfl rfl (OwnS.rd (Ent.at 0 rfl)) hkq85_5_2 (fun x c hc => by simp [Value.oneCell'] at hc ⊢; first | (obtain rfl := hc; rfl) | (rcases hc with rfl <;> rfl)) rfl rfl fun vq85_5_3 => ?_
                refine TA.back (.inr (fun _ s => Sat.by [11, 11, 11, 11, 11, 11, 8] 7 5 (by kernel_rfl) s)) ?_
                refine TA.asL (L' := (OwnS 3 1 vq85_4_1 (([x82.1] : List Int).map cI) :: OwnS 3 1 vq85_16_1 (([x82.2.2.1] : List Int).map cI) :: Bx b84 185 [I x82.1, I x82.2.1, I x82.2.2.1, U x82.2.2.2] :: OwnS 3 1 vq85_5_3 (yq85_5_1.map cI) :: OwnS 3 1 v52 (y54.map cI) :: OwnS 3 1 v55 (y57.map cI) :: OwnS 28 1 v34 (y36.map cI) :: OwnS 114 2 v37 (y39.map cTii) :: Bx b17 87 [v34, v49, v52, v55, .slice none 0 0] :: Bx b16 183 [v12, v37] :: OwnS 185 4 v12 (y40.map cTiiiiu32) :: Bx b6 87 [.slice none 0 0, .slice none 0 0, .slice none 0 0, .slice none 0 0, .slice none 0 0] :: L)) (listed' := #[true, true, true, true, true, true, true, true, true, true, false, false, true, true, true, true, true, false, false, false, false, false, false, false]) (by kernel_rfl) (by kernel_rfl) ?_
                refine TA.takeW 18 rfl rfl rfl rfl (StepS.fld rfl kfieldB_87_1_1_true) (by kernel_rfl) (by kernel_rfl) (by kernel_rfl) rfl (.inr (fun _ s => Sat.by [11, 11, 11, 11, 11, 11, 8] 7 5 (by kernel_rfl) s)) ?_
                exact TA.jump hSq85_7 (vq85_4_1, vq85_16_1, vq85_5_3) rfl (by kernel_rfl) ⟨rfl, rfl, rfl, rfl, rfl, rfl, rfl, rfl, rfl, rfl, rfl, rfl, trivial⟩ (fun _ s => Sat.by [11, 11, 11, 11, 11, 11, 11, 11, 11, 11, 11, 11] 12 0 (by kernel_rfl) s)
              · refine TB.of rfl ?_
                refine TO.litS (f := cI) ([x82.2.1] : List Int) kelemB_22_3_1_8_true kinfo_3_bind_zero_some_I_0 rfl rfl (fun _ => rfl) rfl rfl (by kernel_rfl) rfl fun vq85_10_1 => ?_
                refine TA.back (.inr (fun _ s => Sat.by [12, 12, 12, 12, 12, 12, 9] 7 6 (by kernel_rfl) s)) ?_
                refine TA.asL (L' := (OwnS 3 1 vq85_10_1 (([x82.2.1] : List Int).map cI) :: OwnS 3 1 vq85_4_1 (([x82.1] : List Int).map cI) :: OwnS 3 1 vq85_16_1 (([x82.2.2.1] : List Int).map cI) :: Bx b84 185 [I x82.1, I x82.2.1, I x82.2.2.1, U x82.2.2.2] :: OwnS 3 1 v49 (y51.map cI) :: OwnS 3 1 v52 (y54.map cI) :: OwnS 3 1 v55 (y57.map cI) :: OwnS 28 1 v34 (y36.map cI) :: OwnS 114 2 v37 (y39.map cTii) :: Bx b17 87 [v34, v49, v52, v55, .slice none 0 0] :: Bx b16 183 [v12, v37] :: OwnS 185 4 v12 (y40.map cTiiiiu32) :: Bx b6 87 [.slice none 0 0, .slice none 0 0, .slice none 0 0, .slice none 0 0, .slice none 0 0] :: L)) (listed' := #[true, true, true, true, true, false, true, true, true, true, true, false, true, true, true, true, true, false, false, false, false, false, false, false]) (by kernel_rfl) (by kernel_rfl) ?_
                exact TA.jump hSq85_10 (vq85_4_1, vq85_10_1, vq85_16_1) rfl (by kernel_rfl) ⟨rfl, rfl, rfl, rfl, rfl, rfl, rfl, rfl, rfl, rfl, rfl, rfl, trivial⟩ (fun _ s => Sat.by [12, 12, 12, 12, 12, 12, 12, 12, 12, 12, 12, 11, 12] 13 0 (by kernel_rfl) s)
            refine TA.lem (γ := Value × Value) 10 #[true, true, true, true, false, false, true, true, true, true, true, false, true, true, true, true, true, false, false, false, false, false, false, false] (fun (vq85_10_1, vq85_16_1) => [(4, .pointer (some ⟨b6, 0, none⟩)), (6, .pointer (some ⟨b16, 0, none⟩)), (7, .pointer (some ⟨b17, 0, none⟩)), (44, v12), (45, I (y40.length : Int)), (46, I x58), (51, v49), (53, I x82.1), (57, v52), (60, vq85_10_1), (63, v55), (66, vq85_16_1)]) (fun (vq85_10_1, vq85_16_1) => (OwnS 3 1 vq85_10_1 (([x82.2.1] : List Int).map cI) :: OwnS 3 1 vq85_16_1 (([x82.2.2.1] : List Int).map cI) :: Bx b84 185 [I x82.1, I x82.2.1, I x82.2.2.1, U x82.2.2.2] :: OwnS 3 1 v49 (y51.map cI) :: OwnS 3 1 v52 (y54.map cI) :: OwnS 3 1 v55 (y57.map cI) :: OwnS 28 1 v34 (y36.map cI) :: OwnS 114 2 v37 (y39.map cTii) :: Bx b17 87 [v34, v49, v52, v55, .slice none 0 0] :: Bx b16 183 [v12, v37] :: OwnS 185 4 v12 (y40.map cTiiiiu32) :: Bx b6 87 [.slice none 0 0, .slice none 0 0, .slice none 0 0, .slice none 0 0, .slice none 0 0] :: L)) ?_ fun hSq85_15 => ?_
            · rintro ⟨vq85_10_1, vq85_16_1⟩
              refine TA.all1 (i := 4) (by kernel_rfl) ?_
              · refine TB.of rfl ?_
                refine TO.litS (f := cI) ([x82.1] : List Int) kelemB_22_3_1_8_true kinfo_3_bind_zero_some_I_0 rfl rfl (fun _ => rfl) rfl rfl (by kernel_rfl) rfl fun vq85_4_1 => ?_
                refine TA.back (.inr (fun _ s => Sat.by [12, 12, 12, 12, 12, 12, 9] 7 6 (by kernel_rfl) s)) ?_
                refine TA.asL (L' := (OwnS 3 1 vq85_4_1 (([x82.1] : List Int).map cI) :: OwnS 3 1 vq85_10_1 (([x82.2.1] : List Int).map cI) :: OwnS 3 1 vq85_16_1 (([x82.2.2.1] : List Int).map cI) :: Bx b84 185 [I x82.1, I x82.2.1, I x82.2.2.1, U x82.2.2.2] :: OwnS 3 1 v49 (y51.map cI) :: OwnS 3 1 v52 (y54.map cI) :: OwnS 3 1 v55 (y57.map cI) :: OwnS 28 1 v34 (y36.map cI) :: OwnS 114 2 v37 (y39.map cTii) :: Bx b17 87 [v34, v49, v52, v55, .slice none 0 0] :: Bx b16 183 [v12, v37] :: OwnS 185 4 v12 (y40.map cTiiiiu32) :: Bx b6 87 [.slice none 0 0, .slice none 0 0, .slice none 0 0, .slice none 0 0, .slice none 0 0] :: L)) (listed' := #[true, true, true, true, true, false, true, true, true, true, true, false, true, true, true, true, true, false, false, false, false, false, false, false]) (by kernel_rfl) (by kernel_rfl) ?_
                exact TA.jump hSq85_10 (vq85_4_1, vq85_10_1, vq85_16_1) rfl (by kernel_rfl) ⟨rfl, rfl, rfl, rfl, rfl, rfl, rfl, rfl, rfl, rfl, rfl, rfl, trivial⟩ (fun _ s => Sat.by [12, 12, 12, 12, 12, 12, 12, 12, 12, 12, 12, 12, 12] 13 0 (by kernel_rfl) s)
            refine TA.lem (γ := Value × Value) 10 #[true, true, true, true, true, false, true, true, true, true, true, false, true, true, true, true, false, false, false, false, false, false, false, false] (fun (vq85_4_1, vq85_10_1) => [(4, .pointer (some ⟨b6, 0, none⟩)), (6, .pointer (some ⟨b16, 0, none⟩)), (7, .pointer (some ⟨b17, 0, none⟩)), (44, v12), (45, I (y40.length : Int)), (46, I x58), (51, v49), (54, vq85_4_1), (57, v52), (60, vq85_10_1), (63, v55), (65, I x82.2.2.1)]) (fun (vq85_4_1, vq85_10_1) => (OwnS 3 1 vq85_4_1 (([x82.1] : List Int).map cI) :: OwnS 3 1 vq85_10_1 (([x82.2.1] : List Int).map cI) :: Bx b84 185 [I x82.1, I x82.2.1, I x82.2.2.1, U x82.2.2.2] :: OwnS 3 1 v49 (y51.map cI) :: OwnS 3 1 v52 (y54.map cI) :: OwnS 3 1 v55 (y57.map cI) :: OwnS 28 1 v34 (y36.map cI) :: OwnS 114 2 v37 (y39.map cTii) :: Bx b17 87 [v34, v49, v52, v55, .slice none 0 0] :: Bx b16 183 [v12, v37] :: OwnS 185 4 v12 (y40.map cTiiiiu32) :: Bx b6 87 [.slice none 0 0, .slice none 0 0, .slice none 0 0, .slice none 0 0, .slice none 0 0] :: L)) ?_ fun hSq85_16 => ?_
            · rintro ⟨vq85_4_1, vq85_10_1⟩
              refine TA.all2 (i := 5) (j := 16) (by kernel_rfl) ?_ ?_
              · refine TB.of rfl ?_
                refine TO.app (k := 3) (f := cI) kelemB_22_3_1_8_true (by decide) rfl rfl rfl (OwnS.rd (Ent.at 0 rfl)) hkq85_5_2 (fun x c hc => by simp [Value.oneCell'] at hc ⊢; first | (obtain rfl := hc; rfl) | (rcases hc with rfl <;> rfl)) rfl rfl fun vq85_5_3 => ?_
                refine TA.back (.inr (fun _ s => Sat.by [11, 11, 11, 11, 11, 11, 8] 7 5 (by kernel_rfl) s)) ?_
                refine TA.asL (L' := (OwnS 3 1 vq85_4_1 (([x82.1] : List Int).map cI) :: OwnS 3 1 vq85_10_1 (([x82.2.1] : List Int).map cI) :: Bx b84 185 [I x82.1, I x82.2.1, I x82.2.2.1, U x82.2.2.2] :: OwnS 3 1 vq85_5_3 (yq85_5_1.map cI) :: OwnS 3 1 v52 (y54.map cI) :: OwnS 3 1 v55 (y57.map cI) :: OwnS 28 1 v34 (y36.map cI) :: OwnS 114 2 v37 (y39.map cTii) :: Bx b17 87 [v34, v49, v52, v55, .slice none 0 0] :: Bx b16 183 [v12, v37] :: OwnS 185 4 v12 (y40.map cTiiiiu32) :: Bx b6 87 [.slice none 0 0, .slice none 0 0, .slice none 0 0, .slice none 0 0, .slice none 0 0] :: L)) (listed' := #[true, true, true, true, true, true, true, true, true, true, true, false, true, true, true, true, false, false, false, false, false, false, false, false]) (by kernel_rfl) (by kernel_rfl) ?_
                refine TA.takeW 18 rfl rfl rfl rfl (StepS.fld rfl kfieldB_87_1_1_true) (by kernel_rfl) (by kernel_rfl) (by kernel_rfl) rfl (.inr (fun _ s => Sat.by [11, 11, 11, 11, 11, 11, 8] 7 5 (by kernel_rfl) s)) ?_
                exact TA.jump hSq85_8 (vq85_4_1, vq85_10_1, vq85_5_3) rfl (by kernel_rfl) ⟨rfl, rfl, rfl, rfl, rfl, rfl, rfl, rfl, rfl, rfl, rfl, rfl, trivial⟩ (fun _ s => Sat.by [11, 11, 11, 11, 11, 11, 11, 11, 11, 11, 11, 11] 12 0 (by kernel_rfl) s)
              · refine TB.of rfl ?_
                refine TO.litS (f := cI) ([x82.2.2.1] : List Int) kelemB_22_3_1_8_true kinfo_3_bind_zero_some_I_0 rfl rfl (fun _ => rfl) rfl rfl (by kernel_rfl) rfl fun vq85_16_1 => ?_
                refine TA.back (.inr (fun _ s => Sat.by [12, 12, 12, 12, 12, 12, 9] 7 6 (by kernel_rfl) s)) ?_
                refine TA.asL (L' := (OwnS 3 1 vq85_16_1 (([x82.2.2.1] : List Int).map cI) :: OwnS 3 1 vq85_4_1 (([x82.1] : List Int).map cI) :: OwnS 3 1 vq85_10_1 (([x82.2.1] : List Int).map cI) :: Bx b84 185 [I x82.1, I x82.2.1, I x82.2.2.1, U x82.2.2.2] :: OwnS 3 1 v49 (y51.map cI) :: OwnS 3 1 v52 (y54.map cI) :: OwnS 3 1 v55 (y57.map cI) :: OwnS 28 1 v34 (y36.map cI) :: OwnS 114 2 v37 (y39.map cTii) :: Bx b17 87 [v34, v49, v52, v55, .slice none 0 0] :: Bx b16 183 [v12, v37] :: OwnS 185 4 v12 (y40.map cTiiiiu32) :: Bx b6 87 [.slice none 0 0, .slice none 0 0, .slice none 0 0, .slice none 0 0, .slice none 0 0] :: L)) (listed' := #[true, true, true, true, true, false, true, true, true, true, true, false, true, true, true, true, true, false, false, false, false, false, false, false]) (by kernel_rfl) (by kernel_rfl) ?_
                exact TA.jump hSq85_10 (vq85_4_1, vq85_10_1, vq85_16_1) rfl (by kernel_rfl) ⟨rfl, rfl, rfl, rfl, rfl, rfl, rfl, rfl, rfl, rfl, rfl, rfl, trivial⟩ (fun _ s => Sat.by [12, 12, 12, 12, 12, 12, 12, 12, 12, 12, 10, 12, 12] 13 0 (by kernel_rfl) s)
            refine TA.lem (γ := Value × Value) 10 #[true, true, true, true, true, true, true, true, true, false, false, false, true, true, true, true, false, false, true, false, false, false, false, false] (fun (vq85_4_1, vq85_5_3) => [(4, .pointer (some ⟨b6, 0, none⟩)), (6, .pointer (some ⟨b16, 0, none⟩)), (7, .pointer (some ⟨b17, 0, none⟩)), (44, v12), (45, I (y40.length : Int)), (46, I x58), (55, vq85_5_3), (57, v52), (58, .pointer (some ⟨b84, 0 + 1, none⟩)), (63, v55), (65, I x82.2.2.1), (68, .pointer (some ⟨b17, 0 + 1, none⟩))]) (fun (vq85_4_1, vq85_5_3) => (OwnS 3 1 vq85_4_1 (([x82.1] : List Int).map cI) :: Bx b84 185 [I x82.1, I x82.2.1, I x82.2.2.1, U x82.2.2.2] :: OwnS 3 1 vq85_5_3 (yq85_5_1.map cI) :: OwnS 3 1 v52 (y54.map cI) :: OwnS 3 1 v55 (y57.map cI) :: OwnS 28 1 v34 (y36.map cI) :: OwnS 114 2 v37 (y39.map cTii) :: Bx b17 87 [v34, v49, v52, v55, .slice none 0 0] :: Bx b16 183 [v12, v37] :: OwnS 185 4 v12 (y40.map cTiiiiu32) :: Bx b6 87 [.slice none 0 0, .slice none 0 0, .slice none 0 0, .slice none 0 0, .slice none 0 0] :: L)) ?_ fun hSq85_17 => ?_
            · rintro ⟨vq85_4_1, vq85_5_3⟩
              refine TA.all2 (i := 9) (j := 16) (by kernel_rfl) ?_ ?_
              · refine TB.of rfl ?_
                refine TO.s rfl rfl rfl (StepS.ldB rfl (Ent.at 1 rfl) kscalB_3_true rfl) ?_
                refine TA.back (.inr (fun _ s => Sat.by [10, 10, 10, 10, 10, 10, 7] 7 4 (by kernel_rfl) s)) ?_
                refine TA.asL (L' := (OwnS 3 1 vq85_4_1 (([x82.1] : List Int).map cI) :: Bx b84 185 [I x82.1, I x82.2.1, I x82.2.2.1, U x82.2.2.2] :: OwnS 3 1 vq85_5_3 (yq85_5_1.map cI) :: OwnS 3 1 v52 (y54.map cI) :: OwnS 3 1 v55 (y57.map cI) :: OwnS 28 1 v34 (y36.map cI) :: OwnS 114 2 v37 (y39.map cTii) :: Bx b17 87 [v34, v49, v52, v55, .slice none 0 0] :: Bx b16 183 [v12, v37] :: OwnS 185 4 v12 (y40.map cTiiiiu32) :: Bx b6 87 [.slice none 0 0, .slice none 0 0, .slice none 0 0, .slice none 0 0, .slice none 0 0] :: L)) (listed' := #[true, true, true, true, true, true, true, true, true, true, false, false, true, true, true, true, false, false, true, false, false, false, false, false]) (by kernel_rfl) (by kernel_rfl) ?_
                exact TA.jump hSq85_12 (vq85_4_1, vq85_5_3) rfl (by kernel_rfl) ⟨rfl, rfl, rfl, rfl, rfl, rfl, rfl, rfl, rfl, rfl, rfl, rfl, trivial⟩ (fun _ s => Sat.by [10, 10, 10, 10, 10, 10, 10, 10, 10, 10, 10] 11 0 (by kernel_rfl) s)
              · refine TB.of rfl ?_
                refine TO.litS (f := cI) ([x82.2.2.1] : List Int) kelemB_22_3_1_8_true kinfo_3_bind_zero_some_I_0 rfl rfl (fun _ => rfl) rfl rfl (by kernel_rfl) rfl fun vq85_16_1 => ?_
                refine TA.back (.inr (fun _ s => Sat.by [11, 11, 11, 11, 11, 11, 8] 7 5 (by kernel_rfl) s)) ?_
                refine TA.asL (L' := (OwnS 3 1 vq85_16_1 (([x82.2.2.1] : List Int).map cI) :: OwnS 3 1 vq85_4_1 (([x82.1] : List Int).map cI) :: Bx b84 185 [I x82.1, I x82.2.1, I x82.2.2.1, U x82.2.2.2] :: OwnS 3 1 vq85_5_3 (yq85_5_1.map cI) :: OwnS 3 1 v52 (y54.map cI) :: OwnS 3 1 v55 (y57.map cI) :: OwnS 28 1 v34 (y36.map cI) :: OwnS 114 2 v37 (y39.map cTii) :: Bx b17 87 [v34, v49, v52, v55, .slice none 0 0] :: Bx b16 183 [v12, v37] :: OwnS 185 4 v12 (y40.map cTiiiiu32) :: Bx b6 87 [.slice none 0 0, .slice none 0 0, .slice none 0 0, .slice none 0 0, .slice none 0 0] :: L)) (listed' := #[true, true, true, true, true, true, true, true, true, false, false, false, true, true, true, true, true, false, true, false, false, false, false, false]) (by kernel_rfl) (by kernel_rfl) ?_
                exact TA.jump hSq85_11 (vq85_4_1, vq85_16_1, vq85_5_3) rfl (by kernel_rfl) ⟨rfl, rfl, rfl, rfl, rfl, rfl, rfl, rfl, rfl, rfl, rfl, rfl, trivial⟩ (fun _ s => Sat.by [11, 11, 11, 11, 11, 11, 11, 11, 11, 11, 10, 11] 12 0 (by kernel_rfl) s)
            refine TA.lem (γ := Value × Value) 10 #[true, true, true, true, true, true, true, true, true, true, false, false, true, true, true, false, false, false, true, false, false, false, false, false] (fun (vq85_4_1, vq85_5_3) => [(4, .pointer (some ⟨b6, 0, none⟩)), (6, .pointer (some ⟨b16, 0, none⟩)), (7, .pointer (some ⟨b17, 0, none⟩)), (44, v12), (45, I (y40.length : Int)), (46, I x58), (55, vq85_5_3), (57, v52), (59, I x82.2.1), (63, v55), (64, .pointer (some ⟨b84, 0 + 2, none⟩)), (68, .pointer (some ⟨b17, 0 + 1, none⟩))]) (fun (vq85_4_1, vq85_5_3) => (OwnS 3 1 vq85_4_1 (([x82.1] : List Int).map cI) :: Bx b84 185 [I x82.1, I x82.2.1, I x82.2.2.1, U x82.2.2.2] :: OwnS 3 1 vq85_5_3 (yq85_5_1.map cI) :: OwnS 3 1 v52 (y54.map cI) :: OwnS 3 1 v55 (y57.map cI) :: OwnS 28 1 v34 (y36.map cI) :: OwnS 114 2 v37 (y39.map cTii) :: Bx b17 87 [v34, v49, v52, v55, .slice none 0 0] :: Bx b16 183 [v12, v37] :: OwnS 185 4 v12 (y40.map cTiiiiu32) :: Bx b6 87 [.slice none 0 0, .slice none 0 0, .slice none 0 0, .slice none 0 0, .slice none 0 0] :: L)) ?_ fun hSq85_18 => ?_
            · rintro ⟨vq85_4_1, vq85_5_3⟩
              refine TA.all2 (i := 10) (j := 15) (by kernel_rfl) ?_ ?_
              · refine TB.of rfl ?_
                refine TO.litS (f := cI) ([x82.2.1] : List Int) kelemB_22_3_1_8_true kinfo_3_bind_zero_some_I_0 rfl rfl (fun _ => rfl) rfl rfl (by kernel_rfl) rfl fun vq85_10_1 => ?_
                refine TA.back (.inr (fun _ s => Sat.by [11, 11, 11, 11, 11, 11, 8] 7 5 (by kernel_rfl) s)) ?_
                refine TA.asL (L' := (OwnS 3 1 vq85_10_1 (([x82.2.1] : List Int).map cI) :: OwnS 3 1 vq85_4_1 (([x82.1] : List Int).map cI) :: Bx b84 185 [I x82.1, I x82.2.1, I x82.2.2.1, U x82.2.2.2] :: OwnS 3 1 vq85_5_3 (yq85_5_1.map cI) :: OwnS 3 1 v52 (y54.map cI) :: OwnS 3 1 v55 (y57.map cI) :: OwnS 28 1 v34 (y36.map cI) :: OwnS 114 2 v37 (y39.map cTii) :: Bx b17 87 [v34, v49, v52, v55, .slice none 0 0] :: Bx b16 183 [v12, v37] :: OwnS 185 4 v12 (y40.map cTiiiiu32) :: Bx b6 87 [.slice none 0 0, .slice none 0 0, .slice none 0 0, .slice none 0 0, .slice none 0 0] :: L)) (listed' := #[true, true, true, true, true, true, true, true, true, true, true, false, true, true, true, false, false, false, true, false, false, false, false, false]) (by kernel_rfl) (by kernel_rfl) ?_
                exact TA.jump hSq85_13 (vq85_4_1, vq85_10_1, vq85_5_3) rfl (by kernel_rfl) ⟨rfl, rfl, rfl, rfl, rfl, rfl, rfl, rfl, rfl, rfl, rfl, rfl, trivial⟩ (fun _ s => Sat.by [11, 11, 11, 11, 11, 11, 11, 11, 11, 11, 10, 11] 12 0 (by kernel_rfl) s)
              · refine TB.of rfl ?_
                refine TO.s rfl rfl rfl (StepS.ldB rfl (Ent.at 1 rfl) kscalB_3_true rfl) ?_
                refine TA.back (.inr (fun _ s => Sat.by [10, 10, 10, 10, 10, 10, 7] 7 4 (by kernel_rfl) s)) ?_
                refine TA.asL (L' := (OwnS 3 1 vq85_4_1 (([x82.1] : List Int).map cI) :: Bx b84 185 [I x82.1, I x82.2.1, I x82.2.2.1, U x82.2.2.2] :: OwnS 3 1 vq85_5_3 (yq85_5_1.map cI) :: OwnS 3 1 v52 (y54.map cI) :: OwnS 3 1 v55 (y57.map cI) :: OwnS 28 1 v34 (y36.map cI) :: OwnS 114 2 v37 (y39.map cTii) :: Bx b17 87 [v34, v49, v52, v55, .slice none 0 0] :: Bx b16 183 [v12, v37] :: OwnS 185 4 v12 (y40.map cTiiiiu32) :: Bx b6 87 [.slice none 0 0, .slice none 0 0, .slice none 0 0, .slice none 0 0, .slice none 0 0] :: L)) (listed' := #[true, true, true, true, true, true, true, true, true, true, false, false, true, true, true, true, false, false, true, false, false, false, false, false]) (by kernel_rfl) (by kernel_rfl) ?_
                exact TA.jump hSq85_12 (vq85_4_1, vq85_5_3) rfl (by kernel_rfl) ⟨rfl, rfl, rfl, rfl, rfl, rfl, rfl, rfl, rfl, rfl, rfl, rfl, trivial⟩ (fun _ s => Sat.by [10, 10, 10, 10, 10, 10, 10, 10, 10, 10, 10] 11 0 (by kernel_rfl) s)
            refine TA.lem (γ := Value × Value) 11 #[true, true, true, true, true, false, true, true, true, false, false, false, true, true, true, true, true, false, false, false, false, false, false, false] (fun (vq85_4_1, vq85_16_1) => [(4, .pointer (some ⟨b6, 0, none⟩)), (6, .pointer (some ⟨b16, 0, none⟩)), (7, .pointer (some ⟨b17, 0, none⟩)), (44, v12), (45, I (y40.length : Int)), (46, I x58), (51, v49), (54, vq85_4_1), (57, v52), (58, .pointer (some ⟨b84, 0 + 1, none⟩)), (63, v55), (66, vq85_16_1)]) (fun (vq85_4_1, vq85_16_1) => (OwnS 3 1 vq85_4_1 (([x82.1] : List Int).map cI) :: OwnS 3 1 vq85_16_1 (([x82.2.2.1] : List Int).map cI) :: Bx b84 185 [I x82.1, I x82.2.1, I x82.2.2.1, U x82.2.2.2] :: OwnS 3 1 v49 (y51.map cI) :: OwnS 3 1 v52 (y54.map cI) :: OwnS 3 1 v55 (y57.map cI) :: OwnS 28 1 v34 (y36.map cI) :: OwnS 114 2 v37 (y39.map cTii) :: Bx b17 87 [v34, v49, v52, v55, .slice none 0 0] :: Bx b16 183 [v12, v37] :: OwnS 185 4 v12 (y40.map cTiiiiu32) :: Bx b6 87 [.slice none 0 0, .slice none 0 0, .slice none 0 0, .slice none 0 0, .slice none 0 0] :: L)) ?_ fun hSq85_19 => ?_
            · rintro ⟨vq85_4_1, vq85_16_1⟩
              refine TA.all2 (i := 5) (j := 9) (by kernel_rfl) ?_ ?_
              · refine TB.of rfl ?_
                refine TO.app (k := 3) (f := cI) kelemB_22_3_1_8_true (by decide) rfl rfl rfl (OwnS.rd (Ent.at 0 rfl)) hkq85_5_2 (fun x c hc => by simp [Value.oneCell'] at hc ⊢; first | (obtain rfl := hc; rfl) | (rcases hc with rfl <;> rfl)) rfl rfl fun vq85_5_3 => ?_
                refine TA.back (.inr (fun _ s => Sat.by [11, 11, 11, 11, 11, 11, 8] 7 5 (by kernel_rfl) s)) ?_
                refine TA.asL (L' := (OwnS 3 1 vq85_4_1 (([x82.1] : List Int).map cI) :: OwnS 3 1 vq85_16_1 (([x82.2.2.1] : List Int).map cI) :: Bx b84 185 [I x82.1, I x82.2.1, I x82.2.2.1, U x82.2.2.2] :: OwnS 3 1 vq85_5_3 (yq85_5_1.map cI) :: OwnS 3 1 v52 (y54.map cI) :: OwnS 3 1 v55 (y57.map cI) :: OwnS 28 1 v34 (y36.map cI) :: OwnS 114 2 v37 (y39.map cTii) :: Bx b17 87 [v34, v49, v52, v55, .slice none 0 0] :: Bx b16 183 [v12, v37] :: OwnS 185 4 v12 (y40.map cTiiiiu32) :: Bx b6 87 [.slice none 0 0, .slice none 0 0, .slice none 0 0, .slice none 0 0, .slice none 0 0] :: L)) (listed' := #[true, true, true, true, true, true, true, true, true, false, false, false, true, true, true, true, true, false, false, false, false, false, false, false]) (by kernel_rfl) (by kernel_rfl) ?_
                refine TA.takeW 18 rfl rfl rfl rfl (StepS.fld rfl kfieldB_87_1_1_true) (by kernel_rfl) (by kernel_rfl) (by kernel_rfl) rfl (.inr (fun _ s => Sat.by [11, 11, 11, 11, 11, 11, 8] 7 5 (by kernel_rfl) s)) ?_
                exact TA.jump hSq85_11 (vq85_4_1, vq85_16_1, vq85_5_3) rfl (by kernel_rfl) ⟨rfl, rfl, rfl, rfl, rfl, rfl, rfl, rfl, rfl, rfl, rfl, rfl, trivial⟩ (fun _ s => Sat.by [11, 11, 11, 11, 11, 11, 11, 11, 11, 11, 11, 11] 12 0 (by kernel_rfl) s)
              · refine TB.of rfl ?_
                refine TO.s rfl rfl rfl (StepS.ldB rfl (Ent.at 2 rfl) kscalB_3_true rfl) ?_
                refine TA.back (.inr (fun _ s => Sat.by [11, 11, 11, 11, 11, 11, 8] 7 5 (by kernel_rfl) s)) ?_
                refine TA.asL (L' := (OwnS 3 1 vq85_4_1 (([x82.1] : List Int).map cI) :: OwnS 3 1 vq85_16_1 (([x82.2.2.1] : List Int).map cI) :: Bx b84 185 [I x82.1, I x82.2.1, I x82.2.2.1, U x82.2.2.2] :: OwnS 3 1 v49 (y51.map cI) :: OwnS 3 1 v52 (y54.map cI) :: OwnS 3 1 v55 (y57.map cI) :: OwnS 28 1 v34 (y36.map cI) :: OwnS 114 2 v37 (y39.map cTii) :: Bx b17 87 [v34, v49, v52, v55, .slice none 0 0] :: Bx b16 183 [v12, v37] :: OwnS 185 4 v12 (y40.map cTiiiiu32) :: Bx b6 87 [.slice none 0 0, .slice none 0 0, .slice none 0 0, .slice none 0 0, .slice none 0 0] :: L)) (listed' := #[true, true, true, true, true, false, true, true, true, true, false, false, true, true, true, true, true, false, false, false, false, false, false, false]) (by kernel_rfl) (by kernel_rfl) ?_
                exact TA.jump hSq85_14 (vq85_4_1, vq85_16_1) rfl (by kernel_rfl) ⟨rfl, rfl, rfl, rfl, rfl, rfl, rfl, rfl, rfl, rfl, rfl, rfl, trivial⟩ (fun _ s => Sat.by [11, 11, 11, 11, 11, 11, 11, 11, 11, 11, 11, 11] 12 0 (by kernel_rfl) s)
            refine TA.lem (γ := Value) 11 #[true, true, true, true, false, false, true, true, true, true, false, false, true, true, true, true, true, false, false, false, false, false, false, false] (fun vq85_16_1 => [(4, .pointer (some ⟨b6, 0, none⟩)), (6, .pointer (some ⟨b16, 0, none⟩)), (7, .pointer (some ⟨b17, 0, none⟩)), (44, v12), (45, I (y40.length : Int)), (46, I x58), (51, v49), (53, I x82.1), (57, v52), (59, I x82.2.1), (63, v55), (66, vq85_16_1)]) (fun vq85_16_1 => (OwnS 3 1 vq85_16_1 (([x82.2.2.1] : List Int).map cI) :: Bx b84 185 [I x82.1, I x82.2.1, I x82.2.2.1, U x82.2.2.2] :: OwnS 3 1 v49 (y51.map cI) :: OwnS 3 1 v52 (y54.map cI) :: OwnS 3 1 v55 (y57.map cI) :: OwnS 28 1 v34 (y36.map cI) :: OwnS 114 2 v37 (y39.map cTii) :: Bx b17 87 [v34, v49, v52, v55, .slice none 0 0] :: Bx b16 183 [v12, v37] :: OwnS 185 4 v12 (y40.map cTiiiiu32) :: Bx b6 87 [.slice none 0 0, .slice none 0 0, .slice none 0 0, .slice none 0 0, .slice none 0 0] :: L)) ?_ fun hSq85_20 => ?_
            · intro vq85_16_1
              refine TA.all2 (i := 4) (j := 10) (by kernel_rfl) ?_ ?_
              · refine TB.of rfl ?_
                refine TO.litS (f := cI) ([x82.1] : List Int) kelemB_22_3_1_8_true kinfo_3_bind_zero_some_I_0 rfl rfl (fun _ => rfl) rfl rfl (by kernel_rfl) rfl fun vq85_4_1 => ?_
                refine TA.back (.inr (fun _ s => Sat.by [11, 11, 11, 11, 11, 11, 8] 7 5 (by kernel_rfl) s)) ?_
                refine TA.asL (L' := (OwnS 3 1 vq85_4_1 (([x82.1] : List Int).map cI) :: OwnS 3 1 vq85_16_1 (([x82.2.2.1] : List Int).map cI) :: Bx b84 185 [I x82.1, I x82.2.1, I x82.2.2.1, U x82.2.2.2] :: OwnS 3 1 v49 (y51.map cI) :: OwnS 3 1 v52 (y54.map cI) :: OwnS 3 1 v55 (y57.map cI) :: OwnS 28 1 v34 (y36.map cI) :: OwnS 114 2 v37 (y39.map cTii) :: Bx b17 87 [v34, v49, v52, v55, .slice none 0 0] :: Bx b16 183 [v12, v37] :: OwnS 185 4 v12 (y40.map cTiiiiu32) :: Bx b6 87 [.slice none 0 0, .slice none 0 0, .slice none 0 0, .slice none 0 0, .slice none 0 0] :: L)) (listed' := #[true, true, true, true, true, false, true, true, true, true, false, false, true, true, true, true, true, false, false, false, false, false, false, false]) (by kernel_rfl) (by kernel_rfl) ?_
                exact TA.jump hSq85_14 (vq85_4_1, vq85_16_1) rfl (by kernel_rfl) ⟨rfl, rfl, rfl, rfl, rfl, rfl, rfl, rfl, rfl, rfl, rfl, rfl, trivial⟩ (fun _ s => Sat.by [11, 11, 11, 11, 11, 11, 11, 11, 11, 11, 11, 11] 12 0 (by kernel_rfl) s)
              · refine TB.of rfl ?_
                refine TO.litS (f := cI) ([x82.2.1] : List Int) kelemB_22_3_1_8_true kinfo_3_bind_zero_some_I_0 rfl rfl (fun _ => rfl) rfl rfl (by kernel_rfl) rfl fun vq85_10_1 => ?_
                refine TA.back (.inr (fun _ s => Sat.by [11, 11, 11, 11, 11, 11, 8] 7 5 (by kernel_rfl) s)) ?_
                refine TA.asL (L' := (OwnS 3 1 vq85_10_1 (([x82.2.1] : List Int).map cI) :: OwnS 3 1 vq85_16_1 (([x82.2.2.1] : List Int).map cI) :: Bx b84 185 [I x82.1, I x82.2.1, I x82.2.2.1, U x82.2.2.2] :: OwnS 3 1 v49 (y51.map cI) :: OwnS 3 1 v52 (y54.map cI) :: OwnS 3 1 v55 (y57.map cI) :: OwnS 28 1 v34 (y36.map cI) :: OwnS 114 2 v37 (y39.map cTii) :: Bx b17 87 [v34, v49, v52, v55, .slice none 0 0] :: Bx b16 183 [v12, v37] :: OwnS 185 4 v12 (y40.map cTiiiiu32) :: Bx b6 87 [.slice none 0 0, .slice none 0 0, .slice none 0 0, .slice none 0 0, .slice none 0 0] :: L)) (listed' := #[true, true, true, true, false, false, true, true, true, true, true, false, true, true, true, true, true, false, false, false, false, false, false, false]) (by kernel_rfl) (by kernel_rfl) ?_
                exact TA.jump hSq85_15 (vq85_10_1, vq85_16_1) rfl (by kernel_rfl) ⟨rfl, rfl, rfl, rfl, rfl, rfl, rfl, rfl, rfl, rfl, rfl, rfl, trivial⟩ (fun _ s => Sat.by [11, 11, 11, 11, 11, 11, 11, 11, 11, 11, 11, 11] 12 0 (by kernel_rfl) s)
            refine TA.lem (γ := Value) 11 #[true, true, true, true, true, false, true, true, true, true, false, false, true, true, true, true, false, false, false, false, false, false, false, false] (fun vq85_4_1 => [(4, .pointer (some ⟨b6, 0, none⟩)), (6, .pointer (some ⟨b16, 0, none⟩)), (7, .pointer (some ⟨b17, 0, none⟩)), (44, v12), (45, I (y40.length : Int)), (46, I x58), (51, v49), (54, vq85_4_1), (57, v52), (59, I x82.2.1), (63, v55), (65, I x82.2.2.1)]) (fun vq85_4_1 => (OwnS 3 1 vq85_4_1 (([x82.1] : List Int).map cI) :: Bx b84 185 [I x82.1, I x82.2.1, I x82.2.2.1, U x82.2.2.2] :: OwnS 3 1 v49 (y51.map cI) :: OwnS 3 1 v52 (y54.map cI) :: OwnS 3 1 v55 (y57.map cI) :: OwnS 28 1 v34 (y36.map cI) :: OwnS 114 2 v37 (y39.map cTii) :: Bx b17 87 [v34, v49, v52, v55, .slice none 0 0] :: Bx b16 183 [v12, v37] :: OwnS 185 4 v12 (y40.map cTiiiiu32) :: Bx b6 87 [.slice none 0 0, .slice none 0 0, .slice none 0 0, .slice none 0 0, .slice none 0 0] :: L)) ?_ fun hSq85_21 => ?_
            · intro vq85_4_1
              refine TA.all3 (i := 5) (j := 10) (k := 16) (by kernel_rfl) ?_ ?_ ?_
              · refine TB.of rfl ?_
                refine TO.app (k := 2) (f := cI) kelemB_22_3_1_8_true (by decide) rfl rfl rfl (OwnS.rd (Ent.at 0 rfl)) hkq85_5_2 (fun x c hc => by simp [Value.oneCell'] at hc ⊢; first | (obtain rfl := hc; rfl) | (rcases hc with rfl <;> rfl)) rfl rfl fun vq85_5_3 => ?_
                refine TA.back (.inr (fun _ s => Sat.by [10, 10, 10, 10, 10, 10, 7] 7 4 (by kernel_rfl) s)) ?_
                refine TA.asL (L' := (OwnS 3 1 vq85_4_1 (([x82.1] : List Int).map cI) :: Bx b84 185 [I x82.1, I x82.2.1, I x82.2.2.1, U x82.2.2.2] :: OwnS 3 1 vq85_5_3 (yq85_5_1.map cI) :: OwnS 3 1 v52 (y54.map cI) :: OwnS 3 1 v55 (y57.map cI) :: OwnS 28 1 v34 (y36.map cI) :: OwnS 114 2 v37 (y39.map cTii) :: Bx b17 87 [v34, v49, v52, v55, .slice none 0 0] :: Bx b16 183 [v12, v37] :: OwnS 185 4 v12 (y40.map cTiiiiu32) :: Bx b6 87 [.slice none 0 0, .slice none 0 0, .slice none 0 0, .slice none 0 0, .slice none 0 0] :: L)) (listed' := #[true, true, true, true, true, true, true, true, true, true, false, false, true, true, true, true, false, false, false, false, false, false, false, false]) (by kernel_rfl) (by kernel_rfl) ?_
                refine TA.takeW 18 rfl rfl rfl rfl (StepS.fld rfl kfieldB_87_1_1_true) (by kernel_rfl) (by kernel_rfl) (by kernel_rfl) rfl (.inr (fun _ s => Sat.by [10, 10, 10, 10, 10, 10, 7] 7 4 (by kernel_rfl) s)) ?_
                exact TA.jump hSq85_12 (vq85_4_1, vq85_5_3) rfl (by kernel_rfl) ⟨rfl, rfl, rfl, rfl, rfl, rfl, rfl, rfl, rfl, rfl, rfl, rfl, trivial⟩ (fun _ s => Sat.by [10, 10, 10, 10, 10, 10, 10, 10, 10, 10, 10] 11 0 (by kernel_rfl) s)
              · refine TB.of rfl ?_
                refine TO.litS (f := cI) ([x82.2.1] : List Int) kelemB_22_3_1_8_true kinfo_3_bind_zero_some_I_0 rfl rfl (fun _ => rfl) rfl rfl (by kernel_rfl) rfl fun vq85_10_1 => ?_
                refine TA.back (.inr (fun _ s => Sat.by [11, 11, 11, 11, 11, 11, 8] 7 5 (by kernel_rfl) s)) ?_
                refine TA.asL (L' := (OwnS 3 1 vq85_10_1 (([x82.2.1] : List Int).map cI) :: OwnS 3 1 vq85_4_1 (([x82.1] : List Int).map cI) :: Bx b84 185 [I x82.1, I x82.2.1, I x82.2.2.1, U x82.2.2.2] :: OwnS 3 1 v49 (y51.map cI) :: OwnS 3 1 v52 (y54.map cI) :: OwnS 3 1 v55 (y57.map cI) :: OwnS 28 1 v34 (y36.map cI) :: OwnS 114 2 v37 (y39.map cTii) :: Bx b17 87 [v34, v49, v52, v55, .slice none 0 0] :: Bx b16 183 [v12, v37] :: OwnS 185 4 v12 (y40.map cTiiiiu32) :: Bx b6 87 [.slice none 0 0, .slice none 0 0, .slice none 0 0, .slice none 0 0, .slice none 0 0] :: L)) (listed' := #[true, true, true, true, true, false, true, true, true, true, true, false, true, true, true, true, false, false, false, false, false, false, false, false]) (by kernel_rfl) (by kernel_rfl) ?_
                exact TA.jump hSq85_16 (vq85_4_1, vq85_10_1) rfl (by kernel_rfl) ⟨rfl, rfl, rfl, rfl, rfl, rfl, rfl, rfl, rfl, rfl, rfl, rfl, trivial⟩ (fun _ s => Sat.by [11, 11, 11, 11, 11, 11, 11, 11, 11, 11, 10, 11] 12 0 (by kernel_rfl) s)
              · refine TB.of rfl ?_
                refine TO.litS (f := cI) ([x82.2.2.1] : List Int) kelemB_22_3_1_8_true kinfo_3_bind_zero_some_I_0 rfl rfl (fun _ => rfl) rfl rfl (by kernel_rfl) rfl fun vq85_16_1 => ?_
                refine TA.back (.inr (fun _ s => Sat.by [11, 11, 11, 11, 11, 11, 8] 7 5 (by kernel_rfl) s)) ?_
                refine TA.asL (L' := (OwnS 3 1 vq85_16_1 (([x82.2.2.1] : List Int).map cI) :: OwnS 3 1 vq85_4_1 (([x82.1] : List Int).map cI) :: Bx b84 185 [I x82.1, I x82.2.1, I x82.2.2.1, U x82.2.2.2] :: OwnS 3 1 v49 (y51.map cI) :: OwnS 3 1 v52 (y54.map cI) :: OwnS 3 1 v55 (y57.map cI) :: OwnS 28 1 v34 (y36.map cI) :: OwnS 114 2 v37 (y39.map cTii) :: Bx b17 87 [v34, v49, v52, v55, .slice none 0 0] :: Bx b16 183 [v12, v37] :: OwnS 185 4 v12 (y40.map cTiiiiu32) :: Bx b6 87 [.slice none 0 0, .slice none 0 0, .slice none 0 0, .slice none 0 0, .slice none 0 0] :: L)) (listed' := #[true, true, true, true, true, false, true, true, true, true, false, false, true, true, true, true, true, false, false, false, false, false, false, false]) (by kernel_rfl) (by kernel_rfl) ?_
                exact TA.jump hSq85_14 (vq85_4_1, vq85_16_1) rfl (by kernel_rfl) ⟨rfl, rfl, rfl, rfl, rfl, rfl, rfl, rfl, rfl, rfl, rfl, rfl, trivial⟩ (fun _ s => Sat.by [11, 11, 11, 11, 11, 11, 11, 11, 11, 11, 10, 11] 12 0 (by kernel_rfl) s)
            refine TA.lem (γ := Value) 11 #[true, true, true, true, false, false, true, true, true, true, true, false, true, true, true, true, false, false, false, false, false, false, false, false] (fun vq85_10_1 => [(4, .pointer (some ⟨b6, 0, none⟩)), (6, .pointer (some ⟨b16, 0, none⟩)), (7, .pointer (some ⟨b17, 0, none⟩)), (44, v12), (45, I (y40.length : Int)), (46, I x58), (51, v49), (53, I x82.1), (57, v52), (60, vq85_10_1), (63, v55), (65, I x82.2.2.1)]) (fun vq85_10_1 => (OwnS 3 1 vq85_10_1 (([x82.2.1] : List Int).map cI) :: Bx b84 185 [I x82.1, I x82.2.1, I x82.2.2.1, U x82.2.2.2] :: OwnS 3 1 v49 (y51.map cI) :: OwnS 3 1 v52 (y54.map cI) :: OwnS 3 1 v55 (y57.map cI) :: OwnS 28 1 v34 (y36.map cI) :: OwnS 114 2 v37 (y39.map cTii) :: Bx b17 87 [v34, v49, v52, v55, .slice none 0 0] :: Bx b16 183 [v12, v37] :: OwnS 185 4 v12 (y40.map cTiiiiu32) :: Bx b6 87 [.slice none 0 0, .slice none 0 0, .slice none 0 0, .slice none 0 0, .slice none 0 0] :: L)) ?_ fun hSq85_22 => ?_
            · intro vq85_10_1
              refine TA.all2 (i := 4) (j := 16) (by kernel_rfl) ?_ ?_
              · refine TB.of rfl ?_
                refine TO.litS (f := cI) ([x82.1] : List Int) kelemB_22_3_1_8_true kinfo_3_bind_zero_some_I_0 rfl rfl (fun _ => rfl) rfl rfl (by kernel_rfl) rfl fun vq85_4_1 => ?_
                refine TA.back (.inr (fun _ s => Sat.by [11, 11, 11, 11, 11, 11, 8] 7 5 (by kernel_rfl) s)) ?_
                refine TA.asL (L' := (OwnS 3 1 vq85_4_1 (([x82.1] : List Int).map cI) :: OwnS 3 1 vq85_10_1 (([x82.2.1] : List Int).map cI) :: Bx b84 185 [I x82.1, I x82.2.1, I x82.2.2.1, U x82.2.2.2] :: OwnS 3 1 v49 (y51.map cI) :: OwnS 3 1 v52 (y54.map cI) :: OwnS 3 1 v55 (y57.map cI) :: OwnS 28 1 v34 (y36.map cI) :: OwnS 114 2 v37 (y39.map cTii) :: Bx b17 87 [v34, v49, v52, v55, .slice none 0 0] :: Bx b16 183 [v12, v37] :: OwnS 185 4 v12 (y40.map cTiiiiu32) :: Bx b6 87 [.slice none 0 0, .slice none 0 0, .slice none 0 0, .slice none 0 0, .slice none 0 0] :: L)) (listed' := #[true, true, true, true, true, false, true, true, true, true, true, false, true, true, true, true, false, false, false, false, false, false, false, false]) (by kernel_rfl) (by kernel_rfl) ?_
                exact TA.jump hSq85_16 (vq85_4_1, vq85_10_1) rfl (by kernel_rfl) ⟨rfl, rfl, rfl, rfl, rfl, rfl, rfl, rfl, rfl, rfl, rfl, rfl, trivial⟩ (fun _ s => Sat.by [11, 11, 11, 11, 11, 11, 11, 11, 11, 11, 11, 11] 12 0 (by kernel_rfl) s)
              · refine TB.of rfl ?_
                refine TO.litS (f := cI) ([x82.2.2.1] : List Int) kelemB_22_3_1_8_true kinfo_3_bind_zero_some_I_0 rfl rfl (fun _ => rfl) rfl rfl (by kernel_rfl) rfl fun vq85_16_1 => ?_
                refine TA.back (.inr (fun _ s => Sat.by [11, 11, 11, 11, 11, 11, 8] 7 5 (by kernel_rfl) s)) ?_
                refine TA.asL (L' := (OwnS 3 1 vq85_16_1 (([x82.2.2.1] : List Int).map cI) :: OwnS 3 1 vq85_10_1 (([x82.2.1] : List Int).map cI) :: Bx b84 185 [I x82.1, I x82.2.1, I x82.2.2.1, U x82.2.2.2] :: OwnS 3 1 v49 (y51.map cI) :: OwnS 3 1 v52 (y54.map cI) :: OwnS 3 1 v55 (y57.map cI) :: OwnS 28 1 v34 (y36.map cI) :: OwnS 114 2 v37 (y39.map cTii) :: Bx b17 87 [v34, v49, v52, v55, .slice none 0 0] :: Bx b16 183 [v12, v37] :: OwnS 185 4 v12 (y40.map cTiiiiu32) :: Bx b6 87 [.slice none 0 0, .slice none 0 0, .slice none 0 0, .slice none 0 0, .slice none 0 0] :: L)) (listed' := #[true, true, true, true, false, false, true, true, true, true, true, false, true, true, true, true, true, false, false, false, false, false, false, false]) (by kernel_rfl) (by kernel_rfl) ?_
                exact TA.jump hSq85_15 (vq85_10_1, vq85_16_1) rfl (by kernel_rfl) ⟨rfl, rfl, rfl, rfl, rfl, rfl, rfl, rfl, rfl, rfl, rfl, rfl, trivial⟩ (fun _ s => Sat.by [11, 11, 11, 11, 11, 11, 11, 11, 11, 11, 10, 11] 12 0 (by kernel_rfl) s)
            refine TA.lem (γ := Value × Value) 11 #[true, true, true, true, true, false, true, true, true, true, true, false, true, true, true, false, false, false, false, false, false, false, false, false] (fun (vq85_4_1, vq85_10_1) => [(4, .pointer (some ⟨b6, 0, none⟩)), (6, .pointer (some ⟨b16, 0, none⟩)), (7, .pointer (some ⟨b17, 0, none⟩)), (44, v12), (45, I (y40.length : Int)), (46, I x58), (51, v49), (54, vq85_4_1), (57, v52), (60, vq85_10_1), (63, v55), (64, .pointer (some ⟨b84, 0 + 2, none⟩))]) (fun (vq85_4_1, vq85_10_1) => (OwnS 3 1 vq85_4_1 (([x82.1] : List Int).map cI) :: OwnS 3 1 vq85_10_1 (([x82.2.1] : List Int).map cI) :: Bx b84 185 [I x82.1, I x82.2.1, I x82.2.2.1, U x82.2.2.2] :: OwnS 3 1 v49 (y51.map cI) :: OwnS 3 1 v52 (y54.map cI) :: OwnS 3 1 v55 (y57.map cI) :: OwnS 28 1 v34 (y36.map cI) :: OwnS 114 2 v37 (y39.map cTii) :: Bx b17 87 [v34, v49, v52, v55, .slice none 0 0] :: Bx b16 183 [v12, v37] :: OwnS 185 4 v12 (y40.map cTiiiiu32) :: Bx b6 87 [.slice none 0 0, .slice none 0 0, .slice none 0 0, .slice none 0 0, .slice none 0 0] :: L)) ?_ fun hSq85_23 => ?_
            · rintro ⟨vq85_4_1, vq85_10_1⟩
              refine TA.all2 (i := 5) (j := 15) (by kernel_rfl) ?_ ?_
              · refine TB.of rfl ?_
                refine TO.app (k := 3) (f := cI) kelemB_22_3_1_8_true (by decide) rfl rfl rfl (OwnS.rd (Ent.at 0 rfl)) hkq85_5_2 (fun x c hc => by simp [Value.oneCell'] at hc ⊢; first | (obtain rfl := hc; rfl) | (rcases hc with rfl <;> rfl)) rfl rfl fun vq85_5_3 => ?_
                refine TA.back (.inr (fun _ s => Sat.by [11, 11, 11, 11, 11, 11, 8] 7 5 (by kernel_rfl) s)) ?_
                refine TA.asL (L' := (OwnS 3 1 vq85_4_1 (([x82.1] : List Int).map cI) :: OwnS 3 1 vq85_10_1 (([x82.2.1] : List Int).map cI) :: Bx b84 185 [I x82.1, I x82.2.1, I x82.2.2.1, U x82.2.2.2] :: OwnS 3 1 vq85_5_3 (yq85_5_1.map cI) :: OwnS 3 1 v52 (y54.map cI) :: OwnS 3 1 v55 (y57.map cI) :: OwnS 28 1 v34 (y36.map cI) :: OwnS 114 2 v37 (y39.map cTii) :: Bx b17 87 [v34, v49, v52, v55, .slice none 0 0] :: Bx b16 183 [v12, v37] :: OwnS 185 4 v12 (y40.map cTiiiiu32) :: Bx b6 87 [.slice none 0 0, .slice none 0 0, .slice none 0 0, .slice none 0 0, .slice none 0 0] :: L)) (listed' := #[true, true, true, true, true, true, true, true, true, true, true, false, true, true, true, false, false, false, false, false, false, false, false, false]) (by kernel_rfl) (by kernel_rfl) ?_
                refine TA.takeW 18 rfl rfl rfl rfl (StepS.fld rfl kfieldB_87_1_1_true) (by kernel_rfl) (by kernel_rfl) (by kernel_rfl) rfl (.inr (fun _ s => Sat.by [11, 11, 11, 11, 11, 11, 8] 7 5 (by kernel_rfl) s)) ?_
                exact TA.jump hSq85_13 (vq85_4_1, vq85_10_1, vq85_5_3) rfl (by kernel_rfl) ⟨rfl, rfl, rfl, rfl, rfl, rfl, rfl, rfl, rfl, rfl, rfl, rfl, trivial⟩ (fun _ s => Sat.by [11, 11, 11, 11, 11, 11, 11, 11, 11, 11, 11, 11] 12 0 (by kernel_rfl) s)
              · refine TB.of rfl ?_
                refine TO.s rfl rfl rfl (StepS.ldB rfl (Ent.at 2 rfl) kscalB_3_true rfl) ?_
                refine TA.back (.inr (fun _ s => Sat.by [11, 11, 11, 11, 11, 11, 8] 7 5 (by kernel_rfl) s)) ?_
                refine TA.asL (L' := (OwnS 3 1 vq85_4_1 (([x82.1] : List Int).map cI) :: OwnS 3 1 vq85_10_1 (([x82.2.1] : List Int).map cI) :: Bx b84 185 [I x82.1, I x82.2.1, I x82.2.2.1, U x82.2.2.2] :: OwnS 3 1 v49 (y51.map cI) :: OwnS 3 1 v52 (y54.map cI) :: OwnS 3 1 v55 (y57.map cI) :: OwnS 28 1 v34 (y36.map cI) :: OwnS 114 2 v37 (y39.map cTii) :: Bx b17 87 [v34, v49, v52, v55, .slice none 0 0] :: Bx b16 183 [v12, v37] :: OwnS 185 4 v12 (y40.map cTiiiiu32) :: Bx b6 87 [.slice none 0 0, .slice none 0 0, .slice none 0 0, .slice none 0 0, .slice none 0 0] :: L)) (listed' := #[true, true, true, true, true, false, true, true, true, true, true, false, true, true, true, true, false, false, false, false, false, false, false, false]) (by kernel_rfl) (by kernel_rfl) ?_
                exact TA.jump hSq85_16 (vq85_4_1, vq85_10_1) rfl (by kernel_rfl) ⟨rfl, rfl, rfl, rfl, rfl, rfl, rfl, rfl, rfl, rfl, rfl, rfl, trivial⟩ (fun _ s => Sat.by [11, 11, 11, 11, 11, 11, 11, 11, 11, 11, 11, 11] 12 0 (by kernel_rfl) s)
            refine TA.lem (γ := Value × Value) 11 #[true, true, true, true, true, true, true, true, true, false, false, false, true, true, true, false, false, false, true, false, false, false, false, false] (fun (vq85_4_1, vq85_5_3) => [(4, .pointer (some ⟨b6, 0, none⟩)), (6, .pointer (some ⟨b16, 0, none⟩)), (7, .pointer (some ⟨b17, 0, none⟩)), (44, v12), (45, I (y40.length : Int)), (46, I x58), (55, vq85_5_3), (57, v52), (58, .pointer (some ⟨b84, 0 + 1, none⟩)), (63, v55), (64, .pointer (some ⟨b84, 0 + 2, none⟩)), (68, .pointer (some ⟨b17, 0 + 1, none⟩))]) (fun (vq85_4_1, vq85_5_3) => (OwnS 3 1 vq85_4_1 (([x82.1] : List Int).map cI) :: Bx b84 185 [I x82.1, I x82.2.1, I x82.2.2.1, U x82.2.2.2] :: OwnS 3 1 vq85_5_3 (yq85_5_1.map cI) :: OwnS 3 1 v52 (y54.map cI) :: OwnS 3 1 v55 (y57.map cI) :: OwnS 28 1 v34 (y36.map cI) :: OwnS 114 2 v37 (y39.map cTii) :: Bx b17 87 [v34, v49, v52, v55, .slice none 0 0] :: Bx b16 183 [v12, v37] :: OwnS 185 4 v12 (y40.map cTiiiiu32) :: Bx b6 87 [.slice none 0 0, .slice none 0 0, .slice none 0 0, .slice none 0 0, .slice none 0 0] :: L)) ?_ fun hSq85_24 => ?_
            · rintro ⟨vq85_4_1, vq85_5_3⟩
              refine TA.all2 (i := 9) (j := 15) (by kernel_rfl) ?_ ?_
              · refine TB.of rfl ?_
                refine TO.s rfl rfl rfl (StepS.ldB rfl (Ent.at 1 rfl) kscalB_3_true rfl) ?_
                refine TA.back (.inr (fun _ s => Sat.by [10, 10, 10, 10, 10, 10, 7] 7 4 (by kernel_rfl) s)) ?_
                refine TA.asL (L' := (OwnS 3 1 vq85_4_1 (([x82.1] : List Int).map cI) :: Bx b84 185 [I x82.1, I x82.2.1, I x82.2.2.1, U x82.2.2.2] :: OwnS 3 1 vq85_5_3 (yq85_5_1.map cI) :: OwnS 3 1 v52 (y54.map cI) :: OwnS 3 1 v55 (y57.map cI) :: OwnS 28 1 v34 (y36.map cI) :: OwnS 114 2 v37 (y39.map cTii) :: Bx b17 87 [v34, v49, v52, v55, .slice none 0 0] :: Bx b16 183 [v12, v37] :: OwnS 185 4 v12 (y40.map cTiiiiu32) :: Bx b6 87 [.slice none 0 0, .slice none 0 0, .slice none 0 0, .slice none 0 0, .slice none 0 0] :: L)) (listed' := #[true, true, true, true, true, true, true, true, true, true, false, false, true, true, true, false, false, false, true, false, false, false, false, false]) (by kernel_rfl) (by kernel_rfl) ?_
                exact TA.jump hSq85_18 (vq85_4_1, vq85_5_3) rfl (by kernel_rfl) ⟨rfl, rfl, rfl, rfl, rfl, rfl, rfl, rfl, rfl, rfl, rfl, rfl, trivial⟩ (fun _ s => Sat.by [10, 10, 10, 10, 10, 10, 10, 10, 10, 10, 10] 11 0 (by kernel_rfl) s)
              · refine TB.of rfl ?_
                refine TO.s rfl rfl rfl (StepS.ldB rfl (Ent.at 1 rfl) kscalB_3_true rfl) ?_
                refine TA.back (.inr (fun _ s => Sat.by [10, 10, 10, 10, 10, 10, 7] 7 4 (by kernel_rfl) s)) ?_
                refine TA.asL (L' := (OwnS 3 1 vq85_4_1 (([x82.1] : List Int).map cI) :: Bx b84 185 [I x82.1, I x82.2.1, I x82.2.2.1, U x82.2.2.2] :: OwnS 3 1 vq85_5_3 (yq85_5_1.map cI) :: OwnS 3 1 v52 (y54.map cI) :: OwnS 3 1 v55 (y57.map cI) :: OwnS 28 1 v34 (y36.map cI) :: OwnS 114 2 v37 (y39.map cTii) :: Bx b17 87 [v34, v49, v52, v55, .slice none 0 0] :: Bx b16 183 [v12, v37] :: OwnS 185 4 v12 (y40.map cTiiiiu32) :: Bx b6 87 [.slice none 0 0, .slice none 0 0, .slice none 0 0, .slice none 0 0, .slice none 0 0] :: L)) (listed' := #[true, true, true, true, true, true, true, true, true, false, false, false, true, true, true, true, false, false, true, false, false, false, false, false]) (by kernel_rfl) (by kernel_rfl) ?_
                exact TA.jump hSq85_17 (vq85_4_1, vq85_5_3) rfl (by kernel_rfl) ⟨rfl, rfl, rfl, rfl, rfl, rfl, rfl, rfl, rfl, rfl, rfl, rfl, trivial⟩ (fun _ s => Sat.by [10, 10, 10, 10, 10, 10, 10, 10, 10, 10, 10] 11 0 (by kernel_rfl) s)
            refine TA.lem (γ := Value) 12 #[true, true, true, true, true, false, true, true, true, false, false, false, true, true, true, true, false, false, false, false, false, false, false, false] (fun vq85_4_1 => [(4, .pointer (some ⟨b6, 0, none⟩)), (6, .pointer (some ⟨b16, 0, none⟩)), (7, .pointer (some ⟨b17, 0, none⟩)), (44, v12), (45, I (y40.length : Int)), (46, I x58), (51, v49), (54, vq85_4_1), (57, v52), (58, .pointer (some ⟨b84, 0 + 1, none⟩)), (63, v55), (65, I x82.2.2.1)]) (fun vq85_4_1 => (OwnS 3 1 vq85_4_1 (([x82.1] : List Int).map cI) :: Bx b84 185 [I x82.1, I x82.2.1, I x82.2.2.1, U x82.2.2.2] :: OwnS 3 1 v49 (y51.map cI) :: OwnS 3 1 v52 (y54.map cI) :: OwnS 3 1 v55 (y57.map cI) :: OwnS 28 1 v34 (y36.map cI) :: OwnS 114 2 v37 (y39.map cTii) :: Bx b17 87 [v34, v49, v52, v55, .slice none 0 0] :: Bx b16 183 [v12, v37] :: OwnS 185 4 v12 (y40.map cTiiiiu32) :: Bx b6 87 [.slice none 0 0, .slice none 0 0, .slice none 0 0, .slice none 0 0, .slice none 0 0] :: L)) ?_ fun hSq85_25 => ?_
            · intro vq85_4_1
              refine TA.all3 (i := 5) (j := 9) (k := 16) (by kernel_rfl) ?_ ?_ ?_
              · refine TB.of rfl ?_
                refine TO.app (k := 2) (f := cI) kelemB_22_3_1_8_true (by decide) rfl rfl rfl (OwnS.rd (Ent.at 0 rfl)) hkq85_5_2 (fun x c hc => by simp [Value.oneCell'] at hc ⊢; first | (obtain rfl := hc; rfl) | (rcases hc with rfl <;> rfl)) rfl rfl fun vq85_5_3 => ?_
                refine TA.back (.inr (fun _ s => Sat.by [10, 10, 10, 10, 10, 10, 7] 7 4 (by kernel_rfl) s)) ?_
                refine TA.asL (L' := (OwnS 3 1 vq85_4_1 (([x82.1] : List Int).map cI) :: Bx b84 185 [I x82.1, I x82.2.1, I x82.2.2.1, U x82.2.2.2] :: OwnS 3 1 vq85_5_3 (yq85_5_1.map cI) :: OwnS 3 1 v52 (y54.map cI) :: OwnS 3 1 v55 (y57.map cI) :: OwnS 28 1 v34 (y36.map cI) :: OwnS 114 2 v37 (y39.map cTii) :: Bx b17 87 [v34, v49, v52, v55, .slice none 0 0] :: Bx b16 183 [v12, v37] :: OwnS 185 4 v12 (y40.map cTiiiiu32) :: Bx b6 87 [.slice none 0 0, .slice none 0 0, .slice none 0 0, .slice none 0 0, .slice none 0 0] :: L)) (listed' := #[true, true, true, true, true, true, true, true, true, false, false, false, true, true, true, true, false, false, false, false, false, false, false, false]) (by kernel_rfl) (by kernel_rfl) ?_
                refine TA.takeW 18 rfl rfl rfl rfl (StepS.fld rfl kfieldB_87_1_1_true) (by kernel_rfl) (by kernel_rfl) (by kernel_rfl) rfl (.inr (fun _ s => Sat.by [10, 10, 10, 10, 10, 10, 7] 7 4 (by kernel_rfl) s)) ?_
                exact TA.jump hSq85_17 (vq85_4_1, vq85_5_3) rfl (by kernel_rfl) ⟨rfl, rfl, rfl, rfl, rfl, rfl, rfl, rfl, rfl, rfl, rfl, rfl, trivial⟩ (fun _ s => Sat.by [10, 10, 10, 10, 10, 10, 10, 10, 10, 10, 10] 11 0 (by kernel_rfl) s)
              · refine TB.of rfl ?_
                refine TO.s rfl rfl rfl (StepS.ldB rfl (Ent.at 1 rfl) kscalB_3_true rfl) ?_
                refine TA.back (.inr (fun _ s => Sat.by [10, 10, 10, 10, 10, 10, 7] 7 4 (by kernel_rfl) s)) ?_
                refine TA.asL (L' := (OwnS 3 1 vq85_4_1 (([x82.1] : List Int).map cI) :: Bx b84 185 [I x82.1, I x82.2.1, I x82.2.2.1, U x82.2.2.2] :: OwnS 3 1 v49 (y51.map cI) :: OwnS 3 1 v52 (y54.map cI) :: OwnS 3 1 v55 (y57.map cI) :: OwnS 28 1 v34 (y36.map cI) :: OwnS 114 2 v37 (y39.map cTii) :: Bx b17 87 [v34, v49, v52, v55, .slice none 0 0] :: Bx b16 183 [v12, v37] :: OwnS 185 4 v12 (y40.map cTiiiiu32) :: Bx b6 87 [.slice none 0 0, .slice none 0 0, .slice none 0 0, .slice none 0 0, .slice none 0 0] :: L)) (listed' := #[true, true, true, true, true, false, true, true, true, true, false, false, true, true, true, true, false, false, false, false, false, false, false, false]) (by kernel_rfl) (by kernel_rfl) ?_
                exact TA.jump hSq85_21 vq85_4_1 rfl (by kernel_rfl) ⟨rfl, rfl, rfl, rfl, rfl, rfl, rfl, rfl, rfl, rfl, rfl, rfl, trivial⟩ (fun _ s => Sat.by [10, 10, 10, 10, 10, 10, 10, 10, 10, 10, 10] 11 0 (by kernel_rfl) s)
              · refine TB.of rfl ?_
                refine TO.litS (f := cI) ([x82.2.2.1] : List Int) kelemB_22_3_1_8_true kinfo_3_bind_zero_some_I_0 rfl rfl (fun _ => rfl) rfl rfl (by kernel_rfl) rfl fun vq85_16_1 => ?_
                refine TA.back (.inr (fun _ s => Sat.by [11, 11, 11, 11, 11, 11, 8] 7 5 (by kernel_rfl) s)) ?_
                refine TA.asL (L' := (OwnS 3 1 vq85_16_1 (([x82.2.2.1] : List Int).map cI) :: OwnS 3 1 vq85_4_1 (([x82.1] : List Int).map cI) :: Bx b84 185 [I x82.1, I x82.2.1, I x82.2.2.1, U x82.2.2.2] :: OwnS 3 1 v49 (y51.map cI) :: OwnS 3 1 v52 (y54.map cI) :: OwnS 3 1 v55 (y57.map cI) :: OwnS 28 1 v34 (y36.map cI) :: OwnS 114 2 v37 (y39.map cTii) :: Bx b17 87 [v34, v49, v52, v55, .slice none 0 0] :: Bx b16 183 [v12, v37] :: OwnS 185 4 v12 (y40.map cTiiiiu32) :: Bx b6 87 [.slice none 0 0, .slice none 0 0, .slice none 0 0, .slice none 0 0, .slice none 0 0] :: L)) (listed' := #[true, true, true, true, true, false, true, true, true, false, false, false, true, true, true, true, true, false, false, false, false, false, false, false]) (by kernel_rfl) (by kernel_rfl) ?_
                exact TA.jump hSq85_19 (vq85_4_1, vq85_16_1) rfl (by kernel_rfl) ⟨rfl, rfl, rfl, rfl, rfl, rfl, rfl, rfl, rfl, rfl, rfl, rfl, trivial⟩ (fun _ s => Sat.by [11, 11, 11, 11, 11, 11, 11, 11, 11, 11, 10, 11] 12 0 (by kernel_rfl) s)
            refine TA.lem (γ := Unit) 12 #[true, true, true, true, false, false, true, true, true, true, false, false, true, true, true, true, false, false, false, false, false, false, false, false] (fun _ => [(4, .pointer (some ⟨b6, 0, none⟩)), (6, .pointer (some ⟨b16, 0, none⟩)), (7, .pointer (some ⟨b17, 0, none⟩)), (44, v12), (45, I (y40.length : Int)), (46, I x58), (51, v49), (53, I x82.1), (57, v52), (59, I x82.2.1), (63, v55), (65, I x82.2.2.1)]) (fun _ => (Bx b84 185 [I x82.1, I x82.2.1, I x82.2.2.1, U x82.2.2.2] :: OwnS 3 1 v49 (y51.map cI) :: OwnS 3 1 v52 (y54.map cI) :: OwnS 3 1 v55 (y57.map cI) :: OwnS 28 1 v34 (y36.map cI) :: OwnS 114 2 v37 (y39.map cTii) :: Bx b17 87 [v34, v49, v52, v55, .slice none 0 0] :: Bx b16 183 [v12, v37] :: OwnS 185 4 v12 (y40.map cTiiiiu32) :: Bx b6 87 [.slice none 0 0, .slice none 0 0, .slice none 0 0, .slice none 0 0, .slice none 0 0] :: L)) ?_ fun hSq85_26 => ?_
            · intro _
              refine TA.all3 (i := 4) (j := 10) (k := 16) (by kernel_rfl) ?_ ?_ ?_
              · refine TB.of rfl ?_
                refine TO.litS (f := cI) ([x82.1] : List Int) kelemB_22_3_1_8_true kinfo_3_bind_zero_some_I_0 rfl rfl (fun _ => rfl) rfl rfl (by kernel_rfl) rfl fun vq85_4_1 => ?_
                refine TA.back (.inr (fun _ s => Sat.by [10, 10, 10, 10, 10, 10, 7] 7 4 (by kernel_rfl) s)) ?_
                refine TA.asL (L' := (OwnS 3 1 vq85_4_1 (([x82.1] : List Int).map cI) :: Bx b84 185 [I x82.1, I x82.2.1, I x82.2.2.1, U x82.2.2.2] :: OwnS 3 1 v49 (y51.map cI) :: OwnS 3 1 v52 (y54.map cI) :: OwnS 3 1 v55 (y57.map cI) :: OwnS 28 1 v34 (y36.map cI) :: OwnS 114 2 v37 (y39.map cTii) :: Bx b17 87 [v34, v49, v52, v55, .slice none 0 0] :: Bx b16 183 [v12, v37] :: OwnS 185 4 v12 (y40.map cTiiiiu32) :: Bx b6 87 [.slice none 0 0, .slice none 0 0, .slice none 0 0, .slice none 0 0, .slice none 0 0] :: L)) (listed' := #[true, true, true, true, true, false, true, true, true, true, false, false, true, true, true, true, false, false, false, false, false, false, false, false]) (by kernel_rfl) (by kernel_rfl) ?_
                exact TA.jump hSq85_21 vq85_4_1 rfl (by kernel_rfl) ⟨rfl, rfl, rfl, rfl, rfl, rfl, rfl, rfl, rfl, rfl, rfl, rfl, trivial⟩ (fun _ s => Sat.by [10, 10, 10, 10, 10, 10, 10, 10, 10, 10, 10] 11 0 (by kernel_rfl) s)
              · refine TB.of rfl ?_
                refine TO.litS (f := cI) ([x82.2.1] : List Int) kelemB_22_3_1_8_true kinfo_3_bind_zero_some_I_0 rfl rfl (fun _ => rfl) rfl rfl (by kernel_rfl) rfl fun vq85_10_1 => ?_
                refine TA.back (.inr (fun _ s => Sat.by [10, 10, 10, 10, 10, 10, 7] 7 4 (by kernel_rfl) s)) ?_
                refine TA.asL (L' := (OwnS 3 1 vq85_10_1 (([x82.2.1] : List Int).map cI) :: Bx b84 185 [I x82.1, I x82.2.1, I x82.2.2.1, U x82.2.2.2] :: OwnS 3 1 v49 (y51.map cI) :: OwnS 3 1 v52 (y54.map cI) :: OwnS 3 1 v55 (y57.map cI) :: OwnS 28 1 v34 (y36.map cI) :: OwnS 114 2 v37 (y39.map cTii) :: Bx b17 87 [v34, v49, v52, v55, .slice none 0 0] :: Bx b16 183 [v12, v37] :: OwnS 185 4 v12 (y40.map cTiiiiu32) :: Bx b6 87 [.slice none 0 0, .slice none 0 0, .slice none 0 0, .slice none 0 0, .slice none 0 0] :: L)) (listed' := #[true, true, true, true, false, false, true, true, true, true, true, false, true, true, true, true, false, false, false, false, false, false, false, false]) (by kernel_rfl) (by kernel_rfl) ?_
                exact TA.jump hSq85_22 vq85_10_1 rfl (by kernel_rfl) ⟨rfl, rfl, rfl, rfl, rfl, rfl, rfl, rfl, rfl, rfl, rfl, rfl, trivial⟩ (fun _ s => Sat.by [10, 10, 10, 10, 10, 10, 10, 10, 10, 10, 10] 11 0 (by kernel_rfl) s)
              · refine TB.of rfl ?_
                refine TO.litS (f := cI) ([x82.2.2.1] : List Int) kelemB_22_3_1_8_true kinfo_3_bind_zero_some_I_0 rfl rfl (fun _ => rfl) rfl rfl (by kernel_rfl) rfl fun vq85_16_1 => ?_
                refine TA.back (.inr (fun _ s => Sat.by [10, 10, 10, 10, 10, 10, 7] 7 4 (by kernel_rfl) s)) ?_
                refine TA.asL (L' := (OwnS 3 1 vq85_16_1 (([x82.2.2.1] : List Int).map cI) :: Bx b84 185 [I x82.1, I x82.2.1, I x82.2.2.1, U x82.2.2.2] :: OwnS 3 1 v49 (y51.map cI) :: OwnS 3 1 v52 (y54.map cI) :: OwnS 3 1 v55 (y57.map cI) :: OwnS 28 1 v34 (y36.map cI) :: OwnS 114 2 v37 (y39.map cTii) :: Bx b17 87 [v34, v49, v52, v55, .slice none 0 0] :: Bx b16 183 [v12, v37] :: OwnS 185 4 v12 (y40.map cTiiiiu32) :: Bx b6 87 [.slice none 0 0, .slice none 0 0, .slice none 0 0, .slice none 0 0, .slice none 0 0] :: L)) (listed' := #[true, true, true, true, false, false, true, true, true, true, false, false, true, true, true, true, true, false, false, false, false, false, false, false]) (by kernel_rfl) (by kernel_rfl) ?_
                exact TA.jump hSq85_20 vq85_16_1 rfl (by kernel_rfl) ⟨rfl, rfl, rfl, rfl, rfl, rfl, rfl, rfl, rfl, rfl, rfl, rfl, trivial⟩ (fun _ s => Sat.by [10, 10, 10, 10, 10, 10, 10, 10, 10, 10, 10] 11 0 (by kernel_rfl) s)
            refine TA.lem (γ := Value) 12 #[true, true, true, true, false, false, true, true, true, false, false, false, true, true, true, true, true, false, false, false, false, false, false, false] (fun vq85_16_1 => [(4, .pointer (some ⟨b6, 0, none⟩)), (6, .pointer (some ⟨b16, 0, none⟩)), (7, .pointer (some ⟨b17, 0, none⟩)), (44, v12), (45, I (y40.length : Int)), (46, I x58), (51, v49), (53, I x82.1), (57, v52), (58, .pointer (some ⟨b84, 0 + 1, none⟩)), (63, v55), (66, vq85_16_1)]) (fun vq85_16_1 => (OwnS 3 1 vq85_16_1 (([x82.2.2.1] : List Int).map cI) :: Bx b84 185 [I x82.1, I x82.2.1, I x82.2.2.1, U x82.2.2.2] :: OwnS 3 1 v49 (y51.map cI) :: OwnS 3 1 v52 (y54.map cI) :: OwnS 3 1 v55 (y57.map cI) :: OwnS 28 1 v34 (y36.map cI) :: OwnS 114 2 v37 (y39.map cTii) :: Bx b17 87 [v34, v49, v52, v55, .slice none 0 0] :: Bx b16 183 [v12, v37] :: OwnS 185 4 v12 (y40.map cTiiiiu32) :: Bx b6 87 [.slice none 0 0, .slice none 0 0, .slice none 0 0, .slice none 0 0, .slice none 0 0] :: L)) ?_ fun hSq85_27 => ?_
            · intro vq85_16_1
              refine TA.all2 (i := 4) (j := 9) (by kernel_rfl) ?_ ?_
              · refine TB.of rfl ?_
                refine TO.litS (f := cI) ([x82.1] : List Int) kelemB_22_3_1_8_true kinfo_3_bind_zero_some_I_0 rfl rfl (fun _ => rfl) rfl rfl (by kernel_rfl) rfl fun vq85_4_1 => ?_
                refine TA.back (.inr (fun _ s => Sat.by [11, 11, 11, 11, 11, 11, 8] 7 5 (by kernel_rfl) s)) ?_
                refine TA.asL (L' := (OwnS 3 1 vq85_4_1 (([x82.1] : List Int).map cI) :: OwnS 3 1 vq85_16_1 (([x82.2.2.1] : List Int).map cI) :: Bx b84 185 [I x82.1, I x82.2.1, I x82.2.2.1, U x82.2.2.2] :: OwnS 3 1 v49 (y51.map cI) :: OwnS 3 1 v52 (y54.map cI) :: OwnS 3 1 v55 (y57.map cI) :: OwnS 28 1 v34 (y36.map cI) :: OwnS 114 2 v37 (y39.map cTii) :: Bx b17 87 [v34, v49, v52, v55, .slice none 0 0] :: Bx b16 183 [v12, v37] :: OwnS 185 4 v12 (y40.map cTiiiiu32) :: Bx b6 87 [.slice none 0 0, .slice none 0 0, .slice none 0 0, .slice none 0 0, .slice none 0 0] :: L)) (listed' := #[true, true, true, true, true, false, true, true, true, false, false, false, true, true, true, true, true, false, false, false, false, false, false, false]) (by kernel_rfl) (by kernel_rfl) ?_
                exact TA.jump hSq85_19 (vq85_4_1, vq85_16_1) rfl (by kernel_rfl) ⟨rfl, rfl, rfl, rfl, rfl, rfl, rfl, rfl, rfl, rfl, rfl, rfl, trivial⟩ (fun _ s => Sat.by [11, 11, 11, 11, 11, 11, 11, 11, 11, 11, 11, 11] 12 0 (by kernel_rfl) s)
              · refine TB.of rfl ?_
                refine TO.s rfl rfl rfl (StepS.ldB rfl (Ent.at 1 rfl) kscalB_3_true rfl) ?_
                refine TA.back (.inr (fun _ s => Sat.by [10, 10, 10, 10, 10, 10, 7] 7 4 (by kernel_rfl) s)) ?_
                refine TA.asL (L' := (OwnS 3 1 vq85_16_1 (([x82.2.2.1] : List Int).map cI) :: Bx b84 185 [I x82.1, I x82.2.1, I x82.2.2.1, U x82.2.2.2] :: OwnS 3 1 v49 (y51.map cI) :: OwnS 3 1 v52 (y54.map cI) :: OwnS 3 1 v55 (y57.map cI) :: OwnS 28 1 v34 (y36.map cI) :: OwnS 114 2 v37 (y39.map cTii) :: Bx b17 87 [v34, v49, v52, v55, .slice none 0 0] :: Bx b16 183 [v12, v37] :: OwnS 185 4 v12 (y40.map cTiiiiu32) :: Bx b6 87 [.slice none 0 0, .slice none 0 0, .slice none 0 0, .slice none 0 0, .slice none 0 0] :: L)) (listed' := #[true, true, true, true, false, false, true, true, true, true, false, false, true, true, true, true, true, false, false, false, false, false, false, false]) (by kernel_rfl) (by kernel_rfl) ?_
                exact TA.jump hSq85_20 vq85_16_1 rfl (by kernel_rfl) ⟨rfl, rfl, rfl, rfl, rfl, rfl, rfl, rfl, rfl, rfl, rfl, rfl, trivial⟩ (fun _ s => Sat.by [10, 10, 10, 10, 10, 10, 10, 10, 10, 10, 10] 11 0 (by kernel_rfl) s)
            refine TA.lem (γ := Value) 12 #[true, true, true, true, true, false, true, true, true, true, false, false, true, true, true, false, false, false, false, false, false, false, false, false] (fun vq85_4_1 => [(4, .pointer (some ⟨b6, 0, none⟩)), (6, .pointer (some ⟨b16, 0, none⟩)), (7, .pointer (some ⟨b17, 0, none⟩)), (44, v12), (45, I (y40.length : Int)), (46, I x58), (51, v49), (54, vq85_4_1), (57, v52), (59, I x82.2.1), (63, v55), (64, .pointer (some ⟨b84, 0 + 2, none⟩))]) (fun vq85_4_1 => (OwnS 3 1 vq85_4_1 (([x82.1] : List Int).map cI) :: Bx b84 185 [I x82.1, I x82.2.1, I x82.2.2.1, U x82.2.2.2] :: OwnS 3 1 v49 (y51.map cI) :: OwnS 3 1 v52 (y54.map cI) :: OwnS 3 1 v55 (y57.map cI) :: OwnS 28 1 v34 (y36.map cI) :: OwnS 114 2 v37 (y39.map cTii) :: Bx b17 87 [v34, v49, v52, v55, .slice none 0 0] :: Bx b16 183 [v12, v37] :: OwnS 185 4 v12 (y40.map cTiiiiu32) :: Bx b6 87 [.slice none 0 0, .slice none 0 0, .slice none 0 0, .slice none 0 0, .slice none 0 0] :: L)) ?_ fun hSq85_28 => ?_
            · intro vq85_4_1
              refine TA.all3 (i := 5) (j := 10) (k := 15) (by kernel_rfl) ?_ ?_ ?_
              · refine TB.of rfl ?_
                refine TO.app (k := 2) (f := cI) kelemB_22_3_1_8_true (by decide) rfl rfl rfl (OwnS.rd (Ent.at 0 rfl)) hkq85_5_2 (fun x c hc => by simp [Value.oneCell'] at hc ⊢; first | (obtain rfl := hc; rfl) | (rcases hc with rfl <;> rfl)) rfl rfl fun vq85_5_3 => ?_
                refine TA.back (.inr (fun _ s => Sat.by [10, 10, 10, 10, 10, 10, 7] 7 4 (by kernel_rfl) s)) ?_
                refine TA.asL (L' := (OwnS 3 1 vq85_4_1 (([x82.1] : List Int).map cI) :: Bx b84 185 [I x82.1, I x82.2.1, I x82.2.2.1, U x82.2.2.2] :: OwnS 3 1 vq85_5_3 (yq85_5_1.map cI) :: OwnS 3 1 v52 (y54.map cI) :: OwnS 3 1 v55 (y57.map cI) :: OwnS 28 1 v34 (y36.map cI) :: OwnS 114 2 v37 (y39.map cTii) :: Bx b17 87 [v34, v49, v52, v55, .slice none 0 0] :: Bx b16 183 [v12, v37] :: OwnS 185 4 v12 (y40.map cTiiiiu32) :: Bx b6 87 [.slice none 0 0, .slice none 0 0, .slice none 0 0, .slice none 0 0, .slice none 0 0] :: L)) (listed' := #[true, true, true, true, true, true, true, true, true, true, false, false, true, true, true, false, false, false, false, false, false, false, false, false]) (by kernel_rfl) (by kernel_rfl) ?_
                refine TA.takeW 18 rfl rfl rfl rfl (StepS.fld rfl kfieldB_87_1_1_true) (by kernel_rfl) (by kernel_rfl) (by kernel_rfl) rfl (.inr (fun _ s => Sat.by [10, 10, 10, 10, 10, 10, 7] 7 4 (by kernel_rfl) s)) ?_
                exact TA.jump hSq85_18 (vq85_4_1, vq85_5_3) rfl (by kernel_rfl) ⟨rfl, rfl, rfl, rfl, rfl, rfl, rfl, rfl, rfl, rfl, rfl, rfl, trivial⟩ (fun _ s => Sat.by [10, 10, 10, 10, 10, 10, 10, 10, 10, 10, 10] 11 0 (by kernel_rfl) s)
              · refine TB.of rfl ?_
                refine TO.litS (f := cI) ([x82.2.1] : List Int) kelemB_22_3_1_8_true kinfo_3_bind_zero_some_I_0 rfl rfl (fun _ => rfl) rfl rfl (by kernel_rfl) rfl fun vq85_10_1 => ?_
                refine TA.back (.inr (fun _ s => Sat.by [11, 11, 11, 11, 11, 11, 8] 7 5 (by kernel_rfl) s)) ?_
                refine TA.asL (L' := (OwnS 3 1 vq85_10_1 (([x82.2.1] : List Int).map cI) :: OwnS 3 1 vq85_4_1 (([x82.1] : List Int).map cI) :: Bx b84 185 [I x82.1, I x82.2.1, I x82.2.2.1, U x82.2.2.2] :: OwnS 3 1 v49 (y51.map cI) :: OwnS 3 1 v52 (y54.map cI) :: OwnS 3 1 v55 (y57.map cI) :: OwnS 28 1 v34 (y36.map cI) :: OwnS 114 2 v37 (y39.map cTii) :: Bx b17 87 [v34, v49, v52, v55, .slice none 0 0] :: Bx b16 183 [v12, v37] :: OwnS 185 4 v12 (y40.map cTiiiiu32) :: Bx b6 87 [.slice none 0 0, .slice none 0 0, .slice none 0 0, .slice none 0 0, .slice none 0 0] :: L)) (listed' := #[true, true, true, true, true, false, true, true, true, true, true, false, true, true, true, false, false, false, false, false, false, false, false, false]) (by kernel_rfl) (by kernel_rfl) ?_
                exact TA.jump hSq85_23 (vq85_4_1, vq85_10_1) rfl (by kernel_rfl) ⟨rfl, rfl, rfl, rfl, rfl, rfl, rfl, rfl, rfl, rfl, rfl, rfl, trivial⟩ (fun _ s => Sat.by [11, 11, 11, 11, 11, 11, 11, 11, 11, 11, 10, 11] 12 0 (by kernel_rfl) s)
              · refine TB.of rfl ?_
                refine TO.s rfl rfl rfl (StepS.ldB rfl (Ent.at 1 rfl) kscalB_3_true rfl) ?_
                refine TA.back (.inr (fun _ s => Sat.by [10, 10, 10, 10, 10, 10, 7] 7 4 (by kernel_rfl) s)) ?_
                refine TA.asL (L' := (OwnS 3 1 vq85_4_1 (([x82.1] : List Int).map cI) :: Bx b84 185 [I x82.1, I x82.2.1, I x82.2.2.1, U x82.2.2.2] :: OwnS 3 1 v49 (y51.map cI) :: OwnS 3 1 v52 (y54.map cI) :: OwnS 3 1 v55 (y57.map cI) :: OwnS 28 1 v34 (y36.map cI) :: OwnS 114 2 v37 (y39.map cTii) :: Bx b17 87 [v34, v49, v52, v55, .slice none 0 0] :: Bx b16 183 [v12, v37] :: OwnS 185 4 v12 (y40.map cTiiiiu32) :: Bx b6 87 [.slice none 0 0, .slice none 0 0, .slice none 0 0, .slice none 0 0, .slice none 0 0] :: L)) (listed' := #[true, true, true, true, true, false, true, true, true, true, false, false, true, true, true, true, false, false, false, false, false, false, false, false]) (by kernel_rfl) (by kernel_rfl) ?_
                exact TA.jump hSq85_21 vq85_4_1 rfl (by kernel_rfl) ⟨rfl, rfl, rfl, rfl, rfl, rfl, rfl, rfl, rfl, rfl, rfl, rfl, trivial⟩ (fun _ s => Sat.by [10, 10, 10, 10, 10, 10, 10, 10, 10, 10, 10] 11 0 (by kernel_rfl) s)
            refine TA.lem (γ := Value) 12 #[true, true, true, true, false, false, true, true, true, true, true, false, true, true, true, false, false, false, false, false, false, false, false, false] (fun vq85_10_1 => [(4, .pointer (some ⟨b6, 0, none⟩)), (6, .pointer (some ⟨b16, 0, none⟩)), (7, .pointer (some ⟨b17, 0, none⟩)), (44, v12), (45, I (y40.length : Int)), (46, I x58), (51, v49), (53, I x82.1), (57, v52), (60, vq85_10_1), (63, v55), (64, .pointer (some ⟨b84, 0 + 2, none⟩))]) (fun vq85_10_1 => (OwnS 3 1 vq85_10_1 (([x82.2.1] : List Int).map cI) :: Bx b84 185 [I x82.1, I x82.2.1, I x82.2.2.1, U x82.2.2.2] :: OwnS 3 1 v49 (y51.map cI) :: OwnS 3 1 v52 (y54.map cI) :: OwnS 3 1 v55 (y57.map cI) :: OwnS 28 1 v34 (y36.map cI) :: OwnS 114 2 v37 (y39.map cTii) :: Bx b17 87 [v34, v49, v52, v55, .slice none 0 0] :: Bx b16 183 [v12, v37] :: OwnS 185 4 v12 (y40.map cTiiiiu32) :: Bx b6 87 [.slice none 0 0, .slice none 0 0, .slice none 0 0, .slice none 0 0, .slice none 0 0] :: L)) ?_ fun hSq85_29 => ?_
            · intro vq85_10_1
              refine TA.all2 (i := 4) (j := 15) (by kernel_rfl) ?_ ?_
              · refine TB.of rfl ?_
                refine TO.litS (f := cI) ([x82.1] : List Int) kelemB_22_3_1_8_true kinfo_3_bind_zero_some_I_0 rfl rfl (fun _ => rfl) rfl rfl (by kernel_rfl) rfl fun vq85_4_1 => ?_
                refine TA.back (.inr (fun _ s => Sat.by [11, 11, 11, 11, 11, 11, 8] 7 5 (by kernel_rfl) s)) ?_
                refine TA.asL (L' := (OwnS 3 1 vq85_4_1 (([x82.1] : List Int).map cI) :: OwnS 3 1 vq85_10_1 (([x82.2.1] : List Int).map cI) :: Bx b84 185 [I x82.1, I x82.2.1, I x82.2.2.1, U x82.2.2.2] :: OwnS 3 1 v49 (y51.map cI) :: OwnS 3 1 v52 (y54.map cI) :: OwnS 3 1 v55 (y57.map cI) :: OwnS 28 1 v34 (y36.map cI) :: OwnS 114 2 v37 (y39.map cTii) :: Bx b17 87 [v34, v49, v52, v55, .slice none 0 0] :: Bx b16 183 [v12, v37] :: OwnS 185 4 v12 (y40.map cTiiiiu32) :: Bx b6 87 [.slice none 0 0, .slice none 0 0, .slice none 0 0, .slice none 0 0, .slice none 0 0] :: L)) (listed' := #[true, true, true, true, true, false, true, true, true, true, true, false, true, true, true, false, false, false, false, false, false, false, false, false]) (by kernel_rfl) (by kernel_rfl) ?_
                exact TA.jump hSq85_23 (vq85_4_1, vq85_10_1) rfl (by kernel_rfl) ⟨rfl, rfl, rfl, rfl, rfl, rfl, rfl, rfl, rfl, rfl, rfl, rfl, trivial⟩ (fun _ s => Sat.by [11, 11, 11, 11, 11, 11, 11, 11, 11, 11, 11, 11] 12 0 (by kernel_rfl) s)
              · refine TB.of rfl ?_
                refine TO.s rfl rfl rfl (StepS.ldB rfl (Ent.at 1 rfl) kscalB_3_true rfl) ?_
                refine TA.back (.inr (fun _ s => Sat.by [10, 10, 10, 10, 10, 10, 7] 7 4 (by kernel_rfl) s)) ?_
                refine TA.asL (L' := (OwnS 3 1 vq85_10_1 (([x82.2.1] : List Int).map cI) :: Bx b84 185 [I x82.1, I x82.2.1, I x82.2.2.1, U x82.2.2.2] :: OwnS 3 1 v49 (y51.map cI) :: OwnS 3 1 v52 (y54.map cI) :: OwnS 3 1 v55 (y57.map cI) :: OwnS 28 1 v34 (y36.map cI) :: OwnS 114 2 v37 (y39.map cTii) :: Bx b17 87 [v34, v49, v52, v55, .slice none 0 0] :: Bx b16 183 [v12, v37] :: OwnS 185 4 v12 (y40.map cTiiiiu32) :: Bx b6 87 [.slice none 0 0, .slice none 0 0, .slice none 0 0, .slice none 0 0, .slice none 0 0] :: L)) (listed' := #[true, true, true, true, false, false, true, true, true, true, true, false, true, true, true, true, false, false, false, false, false, false, false, false]) (by kernel_rfl) (by kernel_rfl) ?_
                exact TA.jump hSq85_22 vq85_10_1 rfl (by kernel_rfl) ⟨rfl, rfl, rfl, rfl, rfl, rfl, rfl, rfl, rfl, rfl, rfl, rfl, trivial⟩ (fun _ s => Sat.by [10, 10, 10, 10, 10, 10, 10, 10, 10, 10, 10] 11 0 (by kernel_rfl) s)
            refine TA.lem (γ := Value) 13 #[true, true, true, true, true, false, true, true, true, false, false, false, true, true, true, false, false, false, false, false, false, false, false, false] (fun vq85_4_1 => [(4, .pointer (some ⟨b6, 0, none⟩)), (6, .pointer (some ⟨b16, 0, none⟩)), (7, .pointer (some ⟨b17, 0, none⟩)), (44, v12), (45, I (y40.length : Int)), (46, I x58), (51, v49), (54, vq85_4_1), (57, v52), (58, .pointer (some ⟨b84, 0 + 1, none⟩)), (63, v55), (64, .pointer (some ⟨b84, 0 + 2, none⟩))]) (fun vq85_4_1 => (OwnS 3 1 vq85_4_1 (([x82.1] : List Int).map cI) :: Bx b84 185 [I x82.1, I x82.2.1, I x82.2.2.1, U x82.2.2.2] :: OwnS 3 1 v49 (y51.map cI) :: OwnS 3 1 v52 (y54.map cI) :: OwnS 3 1 v55 (y57.map cI) :: OwnS 28 1 v34 (y36.map cI) :: OwnS 114 2 v37 (y39.map cTii) :: Bx b17 87 [v34, v49, v52, v55, .slice none 0 0] :: Bx b16 183 [v12, v37] :: OwnS 185 4 v12 (y40.map cTiiiiu32) :: Bx b6 87 [.slice none 0 0, .slice none 0 0, .slice none 0 0, .slice none 0 0, .slice none 0 0] :: L)) ?_ fun hSq85_30 => ?_
            · intro vq85_4_1
              refine TA.all3 (i := 5) (j := 9) (k := 15) (by kernel_rfl) ?_ ?_ ?_
              · refine TB.of rfl ?_
                refine TO.app (k := 2) (f := cI) kelemB_22_3_1_8_true (by decide) rfl rfl rfl (OwnS.rd (Ent.at 0 rfl)) hkq85_5_2 (fun x c hc => by simp [Value.oneCell'] at hc ⊢; first | (obtain rfl := hc; rfl) | (rcases hc with rfl <;> rfl)) rfl rfl fun vq85_5_3 => ?_
                refine TA.back (.inr (fun _ s => Sat.by [10, 10, 10, 10, 10, 10, 7] 7 4 (by kernel_rfl) s)) ?_
                refine TA.asL (L' := (OwnS 3 1 vq85_4_1 (([x82.1] : List Int).map cI) :: Bx b84 185 [I x82.1, I x82.2.1, I x82.2.2.1, U x82.2.2.2] :: OwnS 3 1 vq85_5_3 (yq85_5_1.map cI) :: OwnS 3 1 v52 (y54.map cI) :: OwnS 3 1 v55 (y57.map cI) :: OwnS 28 1 v34 (y36.map cI) :: OwnS 114 2 v37 (y39.map cTii) :: Bx b17 87 [v34, v49, v52, v55, .slice none 0 0] :: Bx b16 183 [v12, v37] :: OwnS 185 4 v12 (y40.map cTiiiiu32) :: Bx b6 87 [.slice none 0 0, .slice none 0 0, .slice none 0 0, .slice none 0 0, .slice none 0 0] :: L)) (listed' := #[true, true, true, true, true, true, true, true, true, false, false, false, true, true, true, false, false, false, false, false, false, false, false, false]) (by kernel_rfl) (by kernel_rfl) ?_
                refine TA.takeW 18 rfl rfl rfl rfl (StepS.fld rfl kfieldB_87_1_1_true) (by kernel_rfl) (by kernel_rfl) (by kernel_rfl) rfl (.inr (fun _ s => Sat.by [10, 10, 10, 10, 10, 10, 7] 7 4 (by kernel_rfl) s)) ?_
                exact TA.jump hSq85_24 (vq85_4_1, vq85_5_3) rfl (by kernel_rfl) ⟨rfl, rfl, rfl, rfl, rfl, rfl, rfl, rfl, rfl, rfl, rfl, rfl, trivial⟩ (fun _ s => Sat.by [10, 10, 10, 10, 10, 10, 10, 10, 10, 10, 10] 11 0 (by kernel_rfl) s)
              · refine TB.of rfl ?_
                refine TO.s rfl rfl rfl (StepS.ldB rfl (Ent.at 1 rfl) kscalB_3_true rfl) ?_
                refine TA.back (.inr (fun _ s => Sat.by [10, 10, 10, 10, 10, 10, 7] 7 4 (by kernel_rfl) s)) ?_
                refine TA.asL (L' := (OwnS 3 1 vq85_4_1 (([x82.1] : List Int).map cI) :: Bx b84 185 [I x82.1, I x82.2.1, I x82.2.2.1, U x82.2.2.2] :: OwnS 3 1 v49 (y51.map cI) :: OwnS 3 1 v52 (y54.map cI) :: OwnS 3 1 v55 (y57.map cI) :: OwnS 28 1 v34 (y36.map cI) :: OwnS 114 2 v37 (y39.map cTii) :: Bx b17 87 [v34, v49, v52, v55, .slice none 0 0] :: Bx b16 183 [v12, v37] :: OwnS 185 4 v12 (y40.map cTiiiiu32) :: Bx b6 87 [.slice none 0 0, .slice none 0 0, .slice none 0 0, .slice none 0 0, .slice none 0 0] :: L)) (listed' := #[true, true, true, true, true, false, true, true, true, true, false, false, true, true, true, false, false, false, false, false, false, false, false, false]) (by kernel_rfl) (by kernel_rfl) ?_
                exact TA.jump hSq85_28 vq85_4_1 rfl (by kernel_rfl) ⟨rfl, rfl, rfl, rfl, rfl, rfl, rfl, rfl, rfl, rfl, rfl, rfl, trivial⟩ (fun _ s => Sat.by [10, 10, 10, 10, 10, 10, 10, 10, 10, 10, 10] 11 0 (by kernel_rfl) s)
              · refine TB.of rfl ?_
                refine TO.s rfl rfl rfl (StepS.ldB rfl (Ent.at 1 rfl) kscalB_3_true rfl) ?_
                refine TA.back (.inr (fun _ s => Sat.by [10, 10, 10, 10, 10, 10, 7] 7 4 (by kernel_rfl) s)) ?_
                refine TA.asL (L' := (OwnS 3 1 vq85_4_1 (([x82.1] : List Int).map cI) :: Bx b84 185 [I x82.1, I x82.2.1, I x82.2.2.1, U x82.2.2.2] :: OwnS 3 1 v49 (y51.map cI) :: OwnS 3 1 v52 (y54.map cI) :: OwnS 3 1 v55 (y57.map cI) :: OwnS 28 1 v34 (y36.map cI) :: OwnS 114 2 v37 (y39.map cTii) :: Bx b17 87 [v34, v49, v52, v55, .slice none 0 0] :: Bx b16 183 [v12, v37] :: OwnS 185 4 v12 (y40.map cTiiiiu32) :: Bx b6 87 [.slice none 0 0, .slice none 0 0, .slice none 0 0, .slice none 0 0, .slice none 0 0] :: L)) (listed' := #[true, true, true, true, true, false, true, true, true, false, false, false, true, true, true, true, false, false, false, false, false, false, false, false]) (by kernel_rfl) (by kernel_rfl) ?_
                exact TA.jump hSq85_25 vq85_4_1 rfl (by kernel_rfl) ⟨rfl, rfl, rfl, rfl, rfl, rfl, rfl, rfl, rfl, rfl, rfl, rfl, trivial⟩ (fun _ s => Sat.by [10, 10, 10, 10, 10, 10, 10, 10, 10, 10, 10] 11 0 (by kernel_rfl) s)
            refine TA.lem (γ := Unit) 13 #[true, true, true, true, false, false, true, true, true, true, false, false, true, true, true, false, false, false, false, false, false, false, false, false] (fun _ => [(4, .pointer (some ⟨b6, 0, none⟩)), (6, .pointer (some ⟨b16, 0, none⟩)), (7, .pointer (some ⟨b17, 0, none⟩)), (44, v12), (45, I (y40.length : Int)), (46, I x58), (51, v49), (53, I x82.1), (57, v52), (59, I x82.2.1), (63, v55), (64, .pointer (some ⟨b84, 0 + 2, none⟩))]) (fun _ => (Bx b84 185 [I x82.1, I x82.2.1, I x82.2.2.1, U x82.2.2.2] :: OwnS 3 1 v49 (y51.map cI) :: OwnS 3 1 v52 (y54.map cI) :: OwnS 3 1 v55 (y57.map cI) :: OwnS 28 1 v34 (y36.map cI) :: OwnS 114 2 v37 (y39.map cTii) :: Bx b17 87 [v34, v49, v52, v55, .slice none 0 0] :: Bx b16 183 [v12, v37] :: OwnS 185 4 v12 (y40.map cTiiiiu32) :: Bx b6 87 [.slice none 0 0, .slice none 0 0, .slice none 0 0, .slice none 0 0, .slice none 0 0] :: L)) ?_ fun hSq85_31 => ?_
            · intro _
              refine TA.all3 (i := 4) (j := 10) (k := 15) (by kernel_rfl) ?_ ?_ ?_
              · refine TB.of rfl ?_
                refine TO.litS (f := cI) ([x82.1] : List Int) kelemB_22_3_1_8_true kinfo_3_bind_zero_some_I_0 rfl rfl (fun _ => rfl) rfl rfl (by kernel_rfl) rfl fun vq85_4_1 => ?_
                refine TA.back (.inr (fun _ s => Sat.by [10, 10, 10, 10, 10, 10, 7] 7 4 (by kernel_rfl) s)) ?_
                refine TA.asL (L' := (OwnS 3 1 vq85_4_1 (([x82.1] : List Int).map cI) :: Bx b84 185 [I x82.1, I x82.2.1, I x82.2.2.1, U x82.2.2.2] :: OwnS 3 1 v49 (y51.map cI) :: OwnS 3 1 v52 (y54.map cI) :: OwnS 3 1 v55 (y57.map cI) :: OwnS 28 1 v34 (y36.map cI) :: OwnS 114 2 v37 (y39.map cTii) :: Bx b17 87 [v34, v49, v52, v55, .slice none 0 0] :: Bx b16 183 [v12, v37] :: OwnS 185 4 v12 (y40.map cTiiiiu32) :: Bx b6 87 [.slice none 0 0, .slice none 0 0, .slice none 0 0, .slice none 0 0, .slice none 0 0] :: L)) (listed' := #[true, true, true, true, true, false, true, true, true, true, false, false, true, true, true, false, false, false, false, false, false, false, false, false]) (by kernel_rfl) (by kernel_rfl) ?_
                exact TA.jump hSq85_28 vq85_4_1 rfl (by kernel_rfl) ⟨rfl, rfl, rfl, rfl, rfl, rfl, rfl, rfl, rfl, rfl, rfl, rfl, trivial⟩ (fun _ s => Sat.by [10, 10, 10, 10, 10, 10, 10, 10, 10, 10, 10] 11 0 (by kernel_rfl) s)
              · refine TB.of rfl ?_
                refine TO.litS (f := cI) ([x82.2.1] : List Int) kelemB_22_3_1_8_true kinfo_3_bind_zero_some_I_0 rfl rfl (fun _ => rfl) rfl rfl (by kernel_rfl) rfl fun vq85_10_1 => ?_
                refine TA.back (.inr (fun _ s => Sat.by [10, 10, 10, 10, 10, 10, 7] 7 4 (by kernel_rfl) s)) ?_
                refine TA.asL (L' := (OwnS 3 1 vq85_10_1 (([x82.2.1] : List Int).map cI) :: Bx b84 185 [I x82.1, I x82.2.1, I x82.2.2.1, U x82.2.2.2] :: OwnS 3 1 v49 (y51.map cI) :: OwnS 3 1 v52 (y54.map cI) :: OwnS 3 1 v55 (y57.map cI) :: OwnS 28 1 v34 (y36.map cI) :: OwnS 114 2 v37 (y39.map cTii) :: Bx b17 87 [v34, v49, v52, v55, .slice none 0 0] :: Bx b16 183 [v12, v37] :: OwnS 185 4 v12 (y40.map cTiiiiu32) :: Bx b6 87 [.slice none 0 0, .slice none 0 0, .slice none 0 0, .slice none 0 0, .slice none 0 0] :: L)) (listed' := #[true, true, true, true, false, false, true, true, true, true, true, false, true, true, true, false, false, false, false, false, false, false, false, false]) (by kernel_rfl) (by kernel_rfl) ?_
                exact TA.jump hSq85_29 vq85_10_1 rfl (by kernel_rfl) ⟨rfl, rfl, rfl, rfl, rfl, rfl, rfl, rfl, rfl, rfl, rfl, rfl, trivial⟩ (fun _ s => Sat.by [10, 10, 10, 10, 10, 10, 10, 10, 10, 10, 10] 11 0 (by kernel_rfl) s)
              · refine TB.of rfl ?_
                refine TO.s rfl rfl rfl (StepS.ldB rfl (Ent.at 0 rfl) kscalB_3_true rfl) ?_
                refine TA.back (.inr (fun _ s => Sat.by [9, 9, 9, 9, 9, 9, 6] 7 3 (by kernel_rfl) s)) ?_
                refine TA.asL (L' := (Bx b84 185 [I x82.1, I x82.2.1, I x82.2.2.1, U x82.2.2.2] :: OwnS 3 1 v49 (y51.map cI) :: OwnS 3 1 v52 (y54.map cI) :: OwnS 3 1 v55 (y57.map cI) :: OwnS 28 1 v34 (y36.map cI) :: OwnS 114 2 v37 (y39.map cTii) :: Bx b17 87 [v34, v49, v52, v55, .slice none 0 0] :: Bx b16 183 [v12, v37] :: OwnS 185 4 v12 (y40.map cTiiiiu32) :: Bx b6 87 [.slice none 0 0, .slice none 0 0, .slice none 0 0, .slice none 0 0, .slice none 0 0] :: L)) (listed' := #[true, true, true, true, false, false, true, true, true, true, false, false, true, true, true, true, false, false, false, false, false, false, false, false]) (by kernel_rfl) (by kernel_rfl) ?_
                exact TA.jump hSq85_26 () rfl (by kernel_rfl) ⟨rfl, rfl, rfl, rfl, rfl, rfl, rfl, rfl, rfl, rfl, rfl, rfl, trivial⟩ (fun _ s => Sat.by [9, 9, 9, 9, 9, 9, 9, 9, 9, 9] 10 0 (by kernel_rfl) s)
            refine TA.lem (γ := Unit) 13 #[true, true, true, true, false, false, true, true, true, false, false, false, true, true, true, true, false, false, false, false, false, false, false, false] (fun _ => [(4, .pointer (some ⟨b6, 0, none⟩)), (6, .pointer (some ⟨b16, 0, none⟩)), (7, .pointer (some ⟨b17, 0, none⟩)), (44, v12), (45, I (y40.length : Int)), (46, I x58), (51, v49), (53, I x82.1), (57, v52), (58, .pointer (some ⟨b84, 0 + 1, none⟩)), (63, v55), (65, I x82.2.2.1)]) (fun _ => (Bx b84 185 [I x82.1, I x82.2.1, I x82.2.2.1, U x82.2.2.2] :: OwnS 3 1 v49 (y51.map cI) :: OwnS 3 1 v52 (y54.map cI) :: OwnS 3 1 v55 (y57.map cI) :: OwnS 28 1 v34 (y36.map cI) :: OwnS 114 2 v37 (y39.map cTii) :: Bx b17 87 [v34, v49, v52, v55, .slice none 0 0] :: Bx b16 183 [v12, v37] :: OwnS 185 4 v12 (y40.map cTiiiiu32) :: Bx b6 87 [.slice none 0 0, .slice none 0 0, .slice none 0 0, .slice none 0 0, .slice none 0 0] :: L)) ?_ fun hSq85_32 => ?_
            · intro _
              refine TA.all3 (i := 4) (j := 9) (k := 16) (by kernel_rfl) ?_ ?_ ?_
              · refine TB.of rfl ?_
                refine TO.litS (f := cI) ([x82.1] : List Int) kelemB_22_3_1_8_true kinfo_3_bind_zero_some_I_0 rfl rfl (fun _ => rfl) rfl rfl (by kernel_rfl) rfl fun vq85_4_1 => ?_
                refine TA.back (.inr (fun _ s => Sat.by [10, 10, 10, 10, 10, 10, 7] 7 4 (by kernel_rfl) s)) ?_
                refine TA.asL (L' := (OwnS 3 1 vq85_4_1 (([x82.1] : List Int).map cI) :: Bx b84 185 [I x82.1, I x82.2.1, I x82.2.2.1, U x82.2.2.2] :: OwnS 3 1 v49 (y51.map cI) :: OwnS 3 1 v52 (y54.map cI) :: OwnS 3 1 v55 (y57.map cI) :: OwnS 28 1 v34 (y36.map cI) :: OwnS 114 2 v37 (y39.map cTii) :: Bx b17 87 [v34, v49, v52, v55, .slice none 0 0] :: Bx b16 183 [v12, v37] :: OwnS 185 4 v12 (y40.map cTiiiiu32) :: Bx b6 87 [.slice none 0 0, .slice none 0 0, .slice none 0 0, .slice none 0 0, .slice none 0 0] :: L)) (listed' := #[true, true, true, true, true, false, true, true, true, false, false, false, true, true, true, true, false, false, false, false, false, false, false, false]) (by kernel_rfl) (by kernel_rfl) ?_
                exact TA.jump hSq85_25 vq85_4_1 rfl (by kernel_rfl) ⟨rfl, rfl, rfl, rfl, rfl, rfl, rfl, rfl, rfl, rfl, rfl, rfl, trivial⟩ (fun _ s => Sat.by [10, 10, 10, 10, 10, 10, 10, 10, 10, 10, 10] 11 0 (by kernel_rfl) s)
              · refine TB.of rfl ?_
                refine TO.s rfl rfl rfl (StepS.ldB rfl (Ent.at 0 rfl) kscalB_3_true rfl) ?_
                refine TA.back (.inr (fun _ s => Sat.by [9, 9, 9, 9, 9, 9, 6] 7 3 (by kernel_rfl) s)) ?_
                refine TA.asL (L' := (Bx b84 185 [I x82.1, I x82.2.1, I x82.2.2.1, U x82.2.2.2] :: OwnS 3 1 v49 (y51.map cI) :: OwnS 3 1 v52 (y54.map cI) :: OwnS 3 1 v55 (y57.map cI) :: OwnS 28 1 v34 (y36.map cI) :: OwnS 114 2 v37 (y39.map cTii) :: Bx b17 87 [v34, v49, v52, v55, .slice none 0 0] :: Bx b16 183 [v12, v37] :: OwnS 185 4 v12 (y40.map cTiiiiu32) :: Bx b6 87 [.slice none 0 0, .slice none 0 0, .slice none 0 0, .slice none 0 0, .slice none 0 0] :: L)) (listed' := #[true, true, true, true, false, false, true, true, true, true, false, false, true, true, true, true, false, false, false, false, false, false, false, false]) (by kernel_rfl) (by kernel_rfl) ?_
                exact TA.jump hSq85_26 () rfl (by kernel_rfl) ⟨rfl, rfl, rfl, rfl, rfl, rfl, rfl, rfl, rfl, rfl, rfl, rfl, trivial⟩ (fun _ s => Sat.by [9, 9, 9, 9, 9, 9, 9, 9, 9, 9] 10 0 (by kernel_rfl) s)
              · refine TB.of rfl ?_
                refine TO.litS (f := cI) ([x82.2.2.1] : List Int) kelemB_22_3_1_8_true kinfo_3_bind_zero_some_I_0 rfl rfl (fun _ => rfl) rfl rfl (by kernel_rfl) rfl fun vq85_16_1 => ?_
                refine TA.back (.inr (fun _ s => Sat.by [10, 10, 10, 10, 10, 10, 7] 7 4 (by kernel_rfl) s)) ?_
                refine TA.asL (L' := (OwnS 3 1 vq85_16_1 (([x82.2.2.1] : List Int).map cI) :: Bx b84 185 [I x82.1, I x82.2.1, I x82.2.2.1, U x82.2.2.2] :: OwnS 3 1 v49 (y51.map cI) :: OwnS 3 1 v52 (y54.map cI) :: OwnS 3 1 v55 (y57.map cI) :: OwnS 28 1 v34 (y36.map cI) :: OwnS 114 2 v37 (y39.map cTii) :: Bx b17 87 [v34, v49, v52, v55, .slice none 0 0] :: Bx b16 183 [v12, v37] :: OwnS 185 4 v12 (y40.map cTiiiiu32) :: Bx b6 87 [.slice none 0 0, .slice none 0 0, .slice none 0 0, .slice none 0 0, .slice none 0 0] :: L)) (listed' := #[true, true, true, true, false, false, true, true, true, false, false, false, true, true, true, true, true, false, false, false, false, false, false, false]) (by kernel_rfl) (by kernel_rfl) ?_
                exact TA.jump hSq85_27 vq85_16_1 rfl (by kernel_rfl) ⟨rfl, rfl, rfl, rfl, rfl, rfl, rfl, rfl, rfl, rfl, rfl, rfl, trivial⟩ (fun _ s => Sat.by [10, 10, 10, 10, 10, 10, 10, 10, 10, 10, 10] 11 0 (by kernel_rfl) s)
            refine TA.all3 (i := 4) (j := 9) (k := 15) (by kernel_rfl) ?_ ?_ ?_
            · refine TB.of rfl ?_
              refine TO.litS (f := cI) ([x82.1] : List Int) kelemB_22_3_1_8_true kinfo_3_bind_zero_some_I_0 rfl rfl (fun _ => rfl) rfl rfl (by kernel_rfl) rfl fun vq85_4_1 => ?_
              refine TA.back (.inr (fun _ s => Sat.by [10, 10, 10, 10, 10, 10, 7] 7 4 (by kernel_rfl) s)) ?_
              refine TA.asL (L' := (OwnS 3 1 vq85_4_1 (([x82.1] : List Int).map cI) :: Bx b84 185 [I x82.1, I x82.2.1, I x82.2.2.1, U x82.2.2.2] :: OwnS 3 1 v49 (y51.map cI) :: OwnS 3 1 v52 (y54.map cI) :: OwnS 3 1 v55 (y57.map cI) :: OwnS 28 1 v34 (y36.map cI) :: OwnS 114 2 v37 (y39.map cTii) :: Bx b17 87 [v34, v49, v52, v55, .slice none 0 0] :: Bx b16 183 [v12, v37] :: OwnS 185 4 v12 (y40.map cTiiiiu32) :: Bx b6 87 [.slice none 0 0, .slice none 0 0, .slice none 0 0, .slice none 0 0, .slice none 0 0] :: L)) (listed' := #[true, true, true, true, true, false, true, true, true, false, false, false, true, true, true, false, false, false, false, false, false, false, false, false]) (by kernel_rfl) (by kernel_rfl) ?_
              exact TA.jump hSq85_30 vq85_4_1 rfl (by kernel_rfl) ⟨rfl, rfl, rfl, rfl, rfl, rfl, rfl, rfl, rfl, rfl, rfl, rfl, trivial⟩ (fun _ s => Sat.by [10, 10, 10, 10, 10, 10, 10, 10, 10, 10, 10] 11 0 (by kernel_rfl) s)
            · refine TB.of rfl ?_
              refine TO.s rfl rfl rfl (StepS.ldB rfl (Ent.at 0 rfl) kscalB_3_true rfl) ?_
              refine TA.back (.inr (fun _ s => Sat.by [9, 9, 9, 9, 9, 9, 6] 7 3 (by kernel_rfl) s)) ?_
              refine TA.asL (L' := (Bx b84 185 [I x82.1, I x82.2.1, I x82.2.2.1, U x82.2.2.2] :: OwnS 3 1 v49 (y51.map cI) :: OwnS 3 1 v52 (y54.map cI) :: OwnS 3 1 v55 (y57.map cI) :: OwnS 28 1 v34 (y36.map cI) :: OwnS 114 2 v37 (y39.map cTii) :: Bx b17 87 [v34, v49, v52, v55, .slice none 0 0] :: Bx b16 183 [v12, v37] :: OwnS 185 4 v12 (y40.map cTiiiiu32) :: Bx b6 87 [.slice none 0 0, .slice none 0 0, .slice none 0 0, .slice none 0 0, .slice none 0 0] :: L)) (listed' := #[true, true, true, true, false, false, true, true, true, true, false, false, true, true, true, false, false, false, false, false, false, false, false, false]) (by kernel_rfl) (by kernel_rfl) ?_
              exact TA.jump hSq85_31 () rfl (by kernel_rfl) ⟨rfl, rfl, rfl, rfl, rfl, rfl, rfl, rfl, rfl, rfl, rfl, rfl, trivial⟩ (fun _ s => Sat.by [9, 9, 9, 9, 9, 9, 9, 9, 9, 9] 10 0 (by kernel_rfl) s)
            · refine TB.of rfl ?_
              refine TO.s rfl rfl rfl (StepS.ldB rfl (Ent.at 0 rfl) kscalB_3_true rfl) ?_
              refine TA.back (.inr (fun _ s => Sat.by [9, 9, 9, 9, 9, 9, 6] 7 3 (by kernel_rfl) s)) ?_
              refine TA.asL (L' := (Bx b84 185 [I x82.1, I x82.2.1, I x82.2.2.1, U x82.2.2.2] :: OwnS 3 1 v49 (y51.map cI) :: OwnS 3 1 v52 (y54.map cI) :: OwnS 3 1 v55 (y57.map cI) :: OwnS 28 1 v34 (y36.map cI) :: OwnS 114 2 v37 (y39.map cTii) :: Bx b17 87 [v34, v49, v52, v55, .slice none 0 0] :: Bx b16 183 [v12, v37] :: OwnS 185 4 v12 (y40.map cTiiiiu32) :: Bx b6 87 [.slice none 0 0, .slice none 0 0, .slice none 0 0, .slice none 0 0, .slice none 0 0] :: L)) (listed' := #[true, true, true, true, false, false, true, true, true, false, false, false, true, true, true, true, false, false, false, false, false, false, false, false]) (by kernel_rfl) (by kernel_rfl) ?_
              exact TA.jump hSq85_32 () rfl (by kernel_rfl) ⟨rfl, rfl, rfl, rfl, rfl, rfl, rfl, rfl, rfl, rfl, rfl, rfl, trivial⟩ (fun _ s => Sat.by [9, 9, 9, 9, 9, 9, 9, 9, 9, 9] 10 0 (by kernel_rfl) s)
          · intro a w ⟨v87, v89, v91, he, hs⟩
            refine TC.use ?_ he hs
            refine TC.region ?_
            refine TO.s rfl rfl rfl (StepS.ari rfl rfl rfl) ?_
            refine TO.s rfl rfl rfl (StepS.move rfl) ?_
            cases hb80
            refine TO.nil fun a w e s => ?_
            exact ⟨v87, v89, v91, e.sub (lk_of_allIn ⟨rfl, rfl, rfl, rfl, rfl, rfl, trivial⟩), s.mono fun _ => Sat.dropN 1⟩
        · replace hb80 := cond_f hc81 hb80
          cases hb80
          refine TC.exit rfl fun a w e s => ?_
          exact ⟨v49, v52, v55, e.sub (lk_of_allIn ⟨rfl, rfl, rfl, trivial⟩), s⟩
      · exact fun a w e s => ⟨.slice none 0 0, .slice none 0 0, .slice none 0 0, e.sub (lk_of_allIn ⟨rfl, rfl, rfl, rfl, rfl, rfl, trivial⟩), s.mono fun _ s => (by replace s := Sat.nilS (e := 3) (sz := 1) (f := cI) s; replace s := Sat.nilS (e := 3) (sz := 1) (f := cI) s; replace s := Sat.nilS (e := 3) (sz := 1) (f := cI) s; exact Sat.by [8, 8, 8, 8, 8, 8, 8, 8, 8] 9 0 (by kernel_rfl) s)⟩
      · rintro ⟨y71, y74, y77⟩ rfl a w ⟨v69, v72, v75, he, hs⟩
        dsimp only [Ctl.on] at hm
        refine TC.use ?_ he hs
        refine TC.k ?_
        refine TC.region ?_
        refine TO.s rfl rfl rfl (StepS.move rfl) ?_
        refine TO.s rfl rfl rfl (StepS.nilc rfl) ?_
        refine TO.s rfl rfl rfl (StepS.fld rfl kfieldB_183_1_1_true) ?_
        refine TO.s rfl rfl rfl (StepS.ldB rfl (Ent.at 6 rfl) kscalB_85_true rfl) ?_
        refine TO.s rfl rfl rfl (StepS.fld rfl kfieldB_87_4_4_true) ?_
        refine TO.pure (fun _ s => Rd.one (OwnS.rd (Ent.at 4 rfl)) s) fun oc93 => ?_
        refine TO.stB (us := [v37]) 5 [v34, v69, v72, v75, v37] rfl rfl rfl ksizeB_85_1_true oc93.2 rfl rfl (by intro u hu; simp only [List.mem_cons, List.not_mem_nil, or_false] at hu; rcases hu with rfl <;> first | exact oc93.1 | rfl) rfl ?_
        refine TO.code ?_
        refine TC.k ?_
        refine TC.region ?_
        refine TO.s rfl rfl rfl (StepS.ldBA rfl (Ent.at 5 rfl) kaggB_87_5_true rfl rfl) ?_
        refine TO.pure (fun _ s => Rd.one (OwnS.rd (Ent.at 3 rfl)) s) fun oc94 => ?_
        refine TO.pure (fun _ s => Rd.one (OwnS.rd (Ent.at 0 rfl)) s) fun oc95 => ?_
        refine TO.pure (fun _ s => Rd.one (OwnS.rd (Ent.at 1 rfl)) s) fun oc96 => ?_
        refine TO.pure (fun _ s => Rd.one (OwnS.rd (Ent.at 2 rfl)) s) fun oc97 => ?_
        refine TO.pure (fun _ s => Rd.one (OwnS.rd (Ent.at 4 rfl)) s) fun oc98 => ?_
        refine TO.stB (us := [v34, v69, v72, v75, v37]) 8 [v34, v69, v72, v75, v37] rfl rfl rfl ksizeB_87_5_true rfl rfl rfl (by intro u hu; simp only [List.mem_cons, List.not_mem_nil, or_false] at hu; rcases hu with rfl | rfl | rfl | rfl | rfl <;> first | exact oc94.1 | exact oc95.1 | exact oc96.1 | exact oc97.1 | exact oc98.1 | rfl) rfl ?_
        refine TO.s rfl rfl rfl (StepS.assign rfl) ?_
        refine TO.code ?_
        cases hm
        refine TC.ret fun a w e s => ?_
        refine FRet.cell2 (P := Try.prog) (fn := Try.f41) e s rfl rfl rfl (Ent.at 8 rfl) kaggB_87_5_true rfl ?_
        refine ⟨_, _, rfl, ⟨(v34), (v69), (v72), (v75), (v37), rfl, rfl⟩, ?_⟩
        refine s.mono fun _ s => ?_
        replace s := Sat.front 4 rfl s
        replace s := Sat.front 3 rfl s
        replace s := Sat.front 3 rfl s
        replace s := Sat.front 3 rfl s
        replace s := Sat.front 4 rfl s
        replace s := Sat.erase 5 s
        replace s := Sat.erase 5 s
        replace s := Sat.erase 5 s
        replace s := Sat.erase 5 s
        exact s
      · rintro r rfl
        exact fun a w h => h.elim
    · rintro r rfl
      exact fun a w h => h.elim
end Go.Proofs.Ythfkdepcnhhepaa
