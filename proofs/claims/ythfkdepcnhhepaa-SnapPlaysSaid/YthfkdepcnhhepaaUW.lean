/-
  The walks: each Go function returns what its model says. Written by a program (gen.py).
-/
import Derived.Test.YthfkdepcnhhepaaProg
import Derived.KernelRfl
import Derived.Test.YthfkdepcnhhepaaKW
import Derived.Test.YthfkdepcnhhepaaUM
namespace Go.Proofs.Ythfkdepcnhhepaa
open Go Go.Bk
set_option linter.unusedVariables false
set_option linter.unnecessarySimpa false
theorem kscalB_130_true : scalB Try.prog 130 = true := by kernel_rfl
theorem kfieldB_134_0_0_true : fieldB Try.prog 134 0 0 = true := by kernel_rfl
theorem kunderlying_114_some_array_2_3 : Try.prog.underlying 114 = some (.array 2 3) := by kernel_rfl
theorem kunderlying_3_some_int_i64 : Try.prog.underlying 3 = some (.int .i64) := by kernel_rfl
theorem ksizeB_3_1_true : sizeB Try.prog 3 1 = true := by kernel_rfl
theorem kfieldB_134_3_3_true : fieldB Try.prog 134 3 3 = true := by kernel_rfl
theorem kscalB_115_true : scalB Try.prog 115 = true := by kernel_rfl
theorem ksliceB_115_4_1_true : sliceB Try.prog 115 4 1 = true := by kernel_rfl
theorem kscalB_4_true : scalB Try.prog 4 = true := by kernel_rfl
theorem ksizeB_4_1_true : sizeB Try.prog 4 1 = true := by kernel_rfl
theorem kfieldB_134_5_5_true : fieldB Try.prog 134 5 5 = true := by kernel_rfl
theorem kfieldB_52_2_2_true : fieldB Try.prog 52 2 2 = true := by kernel_rfl
theorem kfieldB_134_1_1_true : fieldB Try.prog 134 1 1 = true := by kernel_rfl
theorem kfieldB_134_2_2_true : fieldB Try.prog 134 2 2 = true := by kernel_rfl
theorem kscalB_131_true : scalB Try.prog 131 = true := by kernel_rfl
theorem kmapGB_131_114_22_true : mapGB Try.prog 131 114 22 = true := by kernel_rfl
theorem kinfo_22_bind_zero_some_slice_none_0_0 : (Try.prog.info? 22).bind (·.zero) = some (.slice none 0 0) := by kernel_rfl
theorem kelemB_22_3_1_8_true : elemB Try.prog 22 3 1 8 = true := by kernel_rfl
theorem kinfo_3_bind_zero_some_I_0 : (Try.prog.info? 3).bind (·.zero) = some (I 0) := by kernel_rfl
theorem kinfo_114_bind_zero_some_agg_I_0_I_0 : (Try.prog.info? 114).bind (·.zero) = some (.agg #[I 0, I 0]) := by kernel_rfl
theorem ksizeB_114_2_true : sizeB Try.prog 114 2 = true := by kernel_rfl
theorem kaggB_114_2_true : aggB Try.prog 114 2 = true := by kernel_rfl
theorem kcallB_94_true : callB Try.prog 94 = true := by kernel_rfl
theorem kfieldB_134_4_4_true : fieldB Try.prog 134 4 4 = true := by kernel_rfl
theorem kscalB_132_true : scalB Try.prog 132 = true := by kernel_rfl
theorem kmapGB_132_114_4_true : mapGB Try.prog 132 114 4 = true := by kernel_rfl
theorem kinfo_4_bind_zero_some_bool_false : (Try.prog.info? 4).bind (·.zero) = some (.bool false) := by kernel_rfl
theorem kfieldB_52_3_3_true : fieldB Try.prog 52 3 3 = true := by kernel_rfl
theorem kscalB_50_true : scalB Try.prog 50 = true := by kernel_rfl
theorem kfieldB_106_0_0_true : fieldB Try.prog 106 0 0 = true := by kernel_rfl
theorem kcallB_92_true : callB Try.prog 92 = true := by kernel_rfl
theorem kcallB_93_true : callB Try.prog 93 = true := by kernel_rfl
theorem kfieldB_106_3_3_true : fieldB Try.prog 106 3 3 = true := by kernel_rfl
theorem kinfo_52_bind_zero_some_agg_slice_none_0_0_bool_false_slice_none_0_0_slice_none_0_0 : (Try.prog.info? 52).bind (·.zero) = some (.agg #[.slice none 0 0, .bool false, .slice none 0 0, .slice none 0 0]) := by kernel_rfl
theorem ksliceB_23_106_4_true : sliceB Try.prog 23 106 4 = true := by kernel_rfl
theorem ksizeB_52_4_true : sizeB Try.prog 52 4 = true := by kernel_rfl
theorem kaggB_52_4_true : aggB Try.prog 52 4 = true := by kernel_rfl
theorem kelemB_115_4_1_1_true : elemB Try.prog 115 4 1 1 = true := by kernel_rfl
theorem kelemB_50_22_1_24_true : elemB Try.prog 50 22 1 24 = true := by kernel_rfl
theorem ksizeB_22_1_true : sizeB Try.prog 22 1 = true := by kernel_rfl
theorem ksizeB_50_1_true : sizeB Try.prog 50 1 = true := by kernel_rfl
theorem kaggB_106_4_true : aggB Try.prog 106 4 = true := by kernel_rfl
theorem kinfo_106_bind_zero_some_agg_I_0_I_0_I_0_I_0 : (Try.prog.info? 106).bind (·.zero) = some (.agg #[I 0, I 0, I 0, I 0]) := by kernel_rfl
theorem ksizeB_106_4_true : sizeB Try.prog 106 4 = true := by kernel_rfl
theorem kfieldB_52_0_0_true : fieldB Try.prog 52 0 0 = true := by kernel_rfl
theorem kscalB_24_true : scalB Try.prog 24 = true := by kernel_rfl
theorem kcallB_59_true : callB Try.prog 59 = true := by kernel_rfl
theorem kelemB_24_28_1_8_true : elemB Try.prog 24 28 1 8 = true := by kernel_rfl
theorem kinfo_28_bind_zero_some_I_0 : (Try.prog.info? 28).bind (·.zero) = some (I 0) := by kernel_rfl
theorem ksizeB_24_1_true : sizeB Try.prog 24 1 = true := by kernel_rfl
theorem kfieldB_52_1_1_true : fieldB Try.prog 52 1 1 = true := by kernel_rfl

set_option maxRecDepth 100000 in
theorem C92 {B : World} {L : List HP} {a0 : Int} {a1_0 : Int} {b1_ : Nat} {c1_ : Nat} {u1_1_0 : Value} {u1_2_0 : Value} {u1_3_0 : Value} {u1_4_0 : Value} {u1_5_0 : Value} {u1_5_1 : Value} {u1_5_2 : Value} {u1_5_3 : Value} {r0 : Bool} (g1 : Ent L (Bx b1_ 130 [.pointer (some ⟨c1_, 0, none⟩)])) (gg1 : Ent L (Bx c1_ 134 [I a1_0, u1_1_0, u1_2_0, u1_3_0, u1_4_0, u1_5_0, u1_5_1, u1_5_2, u1_5_3])) (hm : F92 a0 a1_0 = some r0) {w : World} (st : St B L w) : Calls Try.prog 92 #[I a0, .pointer (some ⟨b1_, 0, none⟩)] w (fun e w' => (e = .returned (.bool r0) ∧ St B (L) w')) := by
  refine calls_of (N := 14) (L := L) (args := [I a0, .pointer (some ⟨b1_, 0, none⟩)]) Try.func92 rfl rfl rfl ?_ st
  dsimp only [F92] at hm
  refine TC.k ?_
  refine TC.region ?_
  refine TO.s rfl rfl rfl (StepS.assign rfl) ?_
  refine TO.code ?_
  refine TC.k ?_
  refine TC.region ?_
  refine TO.s rfl rfl rfl (StepS.move rfl) ?_
  refine TO.s rfl rfl rfl (StepS.cmp rfl rfl rfl) ?_
  refine TO.s rfl rfl rfl (StepS.move rfl) ?_
  refine TO.mid1 7 13 (.bool ((decide (a0 < 0)) || (decide (a0 ≥ a1_0)))) ?_ ?_
  · refine bcase ((decide (a0 < 0))) (fun hb1 => ?_) (fun hb1 => ?_)
    · refine TO.skip rfl rfl rfl (skipT hb1) rfl rfl ?_
      refine TO.skip rfl rfl rfl (skipT hb1) rfl rfl ?_
      refine TO.skip rfl rfl rfl (skipT hb1) rfl rfl ?_
      refine TO.skip rfl rfl rfl (skipT hb1) rfl rfl ?_
      refine TO.skip rfl rfl rfl (skipT hb1) rfl rfl ?_
      refine TO.skip rfl rfl rfl (skipT hb1) rfl rfl ?_
      refine TO.s rfl rfl rfl (StepS.pickT rfl hb1 rfl) ?_
      exact TO.up1 7 0 rfl rfl (by rw [hb1]; rfl) rfl
    · refine TO.sw rfl rfl rfl hb1 rfl rfl (StepS.move rfl) ?_
      refine TO.sw rfl rfl rfl hb1 rfl rfl (StepS.ldB rfl g1 kscalB_130_true rfl) ?_
      refine TO.sw rfl rfl rfl hb1 rfl rfl (StepS.nilc rfl) ?_
      refine TO.sw rfl rfl rfl hb1 rfl rfl (StepS.fld rfl kfieldB_134_0_0_true) ?_
      refine TO.sw rfl rfl rfl hb1 rfl rfl (StepS.ldB rfl gg1 kscalB_3_true rfl) ?_
      refine TO.sw rfl rfl rfl hb1 rfl rfl (StepS.cmp rfl rfl rfl) ?_
      refine TO.s rfl rfl rfl (StepS.pickF rfl hb1 rfl) ?_
      exact TO.up1 7 0 rfl rfl (by rw [hb1]; rfl) rfl
  refine TO.s rfl rfl rfl (StepS.assign rfl) ?_
  refine TO.code ?_
  cases hm
  refine TC.ret fun a w e s => ?_
  refine FRet.mk1 (P := Try.prog) (fn := Try.f92) (t := 3) e rfl rfl ?_
  exact ⟨rfl, s.mono fun _ => Sat.dropN 0⟩

set_option maxRecDepth 100000 in
theorem C94 {B : World} {L : List HP} {a0 : Int × (List Int) × ((Int × Int) → Option (List Int)) × (List Bool) × List Int} {a1 : Int} {b0_ : Nat} {u0_4 : Value} {u0_5 : Value} {u0_6 : Value} {u0_8 : Value} {h0_1 : Value} {h0_2 : Nat} {h0_3 : (Int × Int) → Value} {h0_4 : Value} {h0_5 : Value} {s0 : Int × (List Int) × ((Int × Int) → Option (List Int)) × (List Bool) × List Int} (hm : F94 a0 a1 = some s0) {w : World} (st : St B (Bx b0_ 134 [I a0.1, h0_1, .map (some h0_2), h0_4, u0_4, u0_5, u0_6, h0_5, u0_8] :: OwnS 3 1 h0_1 (a0.2.1.map cI) :: MS (fun k : Int × Int => .agg #[I k.1, I k.2]) 3 1 cI h0_2 h0_3 (a0.2.2.1) :: OwnS 4 1 h0_4 (a0.2.2.2.1.map cB) :: OwnS 3 1 h0_5 (a0.2.2.2.2.map cI) :: L) w) : Calls Try.prog 94 #[.pointer (some ⟨b0_, 0, none⟩), I a1] w (fun e w' => ∃ v M, e = .returned v ∧ (∃ (qr1 : Nat) (qhd2 : (Int × Int) → Value), v = .tuple #[] ∧ M = (Bx b0_ 134 [I s0.1, h0_1, .map (some qr1), h0_4, u0_4, u0_5, u0_6, h0_5, u0_8] :: OwnS 3 1 h0_1 (s0.2.1.map cI) :: MS (fun k : Int × Int => .agg #[I k.1, I k.2]) 3 1 cI qr1 qhd2 (s0.2.2.1) :: OwnS 4 1 h0_4 (s0.2.2.2.1.map cB) :: OwnS 3 1 h0_5 (s0.2.2.2.2.map cI) :: L)) ∧ St B M w') := by
  refine calls_of (N := 60) (L := (Bx b0_ 134 [I a0.1, h0_1, .map (some h0_2), h0_4, u0_4, u0_5, u0_6, h0_5, u0_8] :: OwnS 3 1 h0_1 (a0.2.1.map cI) :: MS (fun k : Int × Int => .agg #[I k.1, I k.2]) 3 1 cI h0_2 h0_3 (a0.2.2.1) :: OwnS 4 1 h0_4 (a0.2.2.2.1.map cB) :: OwnS 3 1 h0_5 (a0.2.2.2.2.map cI) :: L)) (args := [.pointer (some ⟨b0_, 0, none⟩), I a1]) Try.func94 rfl rfl rfl ?_ st
  dsimp only [F94] at hm
  refine TC.k ?_
  refine TC.k ?_
  refine TC.region ?_
  refine TO.s rfl rfl rfl (StepS.move rfl) ?_
  refine TO.s rfl rfl rfl (StepS.nilc rfl) ?_
  refine TO.s rfl rfl rfl (StepS.fld rfl kfieldB_134_3_3_true) ?_
  refine TO.s rfl rfl rfl (StepS.ldB rfl (Ent.at 0 rfl) kscalB_115_true rfl) ?_
  refine TO.s rfl rfl rfl (StepS.move rfl) ?_
  obtain ⟨x9, hx10, hm⟩ := bind_some hm
  refine TO.s rfl rfl rfl (StepS.idx rfl rfl (OwnS.rd (Ent.at 3 rfl)) ksliceB_115_4_1_true (idx_spec hx10).1 (idxm_lt hx10)) ?_
  refine TO.s rfl rfl rfl (StepS.ld0 rfl (OwnS.rd (Ent.at 3 rfl)) kscalB_4_true rfl (idxm hx10) rfl) ?_
  refine TO.code ?_
  refine TC.cond rfl (fun hc11 => ?_) (fun hc11 => ?_)
  · replace hm := cond_t hc11 hm
    cases hm
    refine TC.ret fun a w e s => ?_
    refine FRet.mk0 (P := Try.prog) (fn := Try.f94) e rfl ?_
    refine ⟨_, _, rfl, ⟨h0_2, h0_3, rfl, rfl⟩, ?_⟩
    refine s.mono fun _ s => ?_
    replace s := Sat.front 4 rfl s
    replace s := Sat.front 4 rfl s
    replace s := Sat.front 4 rfl s
    replace s := Sat.front 4 rfl s
    replace s := Sat.front 4 rfl s
    exact s
  · replace hm := cond_f hc11 hm
    refine TC.skipk ?_
    refine TC.k ?_
    refine TC.region ?_
    refine TO.s rfl rfl rfl (StepS.move rfl) ?_
    refine TO.s rfl rfl rfl (StepS.nilc rfl) ?_
    refine TO.s rfl rfl rfl (StepS.fld rfl kfieldB_134_3_3_true) ?_
    refine TO.s rfl rfl rfl (StepS.ldB rfl (Ent.at 0 rfl) kscalB_115_true rfl) ?_
    refine TO.s rfl rfl rfl (StepS.move rfl) ?_
    obtain ⟨x12, hx13, hm⟩ := bind_some hm
    refine TO.s rfl rfl rfl (StepS.idx rfl rfl (OwnS.rd (Ent.at 3 rfl)) ksliceB_115_4_1_true (idx_spec hx13).1 (idxm_lt hx13)) ?_
    refine TO.stO (i := a1.toNat) (off := 0) (us := [.bool true]) 3 true rfl rfl rfl ksizeB_4_1_true rfl rfl rfl (idx_spec hx13).2 rfl (by simp [Value.oneCell']) rfl ?_
    refine TO.code ?_
    refine TC.k ?_
    refine TC.region_tail 14 kfollows_mixedOrders_true (by kernel_rfl) ?_
    refine TS.s rfl rfl rfl (StepS.move rfl) ?_
    refine TS.s rfl rfl rfl (StepS.nilc rfl) ?_
    refine TS.s rfl rfl rfl (StepS.fld rfl kfieldB_134_5_5_true) ?_
    refine TS.s rfl rfl rfl (StepS.fld rfl kfieldB_52_2_2_true) ?_
    refine TS.s rfl rfl rfl (StepS.ldB rfl (Ent.at 0 rfl) kscalB_22_true rfl) ?_
    refine TS.s rfl rfl rfl (StepS.move rfl) ?_
    refine TS.s rfl rfl rfl (StepS.move rfl) ?_
    refine TS.s rfl rfl rfl (StepS.nilc rfl) ?_
    refine TS.s rfl rfl rfl (StepS.fld rfl kfieldB_134_1_1_true) ?_
    refine TS.s rfl rfl rfl (StepS.ldB rfl (Ent.at 0 rfl) kscalB_22_true rfl) ?_
    refine TS.s rfl rfl rfl (StepS.move rfl) ?_
    obtain ⟨x14, hx15, hm⟩ := bind_some hm
    refine TS.s rfl rfl rfl (StepS.idx rfl rfl (OwnS.rd (Ent.at 1 rfl)) ksliceB_22_3_1_true (idx_spec hx15).1 (idxm_lt hx15)) ?_
    refine TS.s rfl rfl rfl (StepS.ld0 rfl (OwnS.rd (Ent.at 1 rfl)) kscalB_3_true rfl (idxm hx15) rfl) ?_
    obtain ⟨x16, hx17, hm⟩ := bind_some hm
    refine TS.s rfl rfl rfl (StepS.idx rfl rfl (OwnS.rd (Ent.at 4 rfl)) ksliceB_22_3_1_true (idx_spec hx17).1 (idxm_lt hx17)) ?_
    refine TS.nil ?_
    refine TO.at ?_
    refine TO.stO (i := a1.toNat) (off := 0) (us := [I x14]) 4 x14 rfl rfl rfl ksizeB_3_1_true rfl rfl rfl (idx_spec hx17).2 rfl (by simp [Value.oneCell']) rfl ?_
    refine TO.code ?_
    refine TC.k ?_
    refine TC.region ?_
    refine TO.s rfl rfl rfl (StepS.move rfl) ?_
    refine TO.s rfl rfl rfl (StepS.nilc rfl) ?_
    refine TO.s rfl rfl rfl (StepS.fld rfl kfieldB_134_0_0_true) ?_
    refine TO.s rfl rfl rfl (StepS.ldB rfl (Ent.at 0 rfl) kscalB_3_true rfl) ?_
    refine TO.s rfl rfl rfl (StepS.move rfl) ?_
    refine TO.code ?_
    obtain ⟨o26, hw27, hm⟩ := bind_some hm
    refine TC.loop hw27 (fun (y18, x20) => fun a w => ∃ hs19 : (Int × Int) → Value, Mid 60 B [(0, .pointer (some ⟨b0_, 0, none⟩)), (1, I a1), (35, I a0.1), (36, I x20)] (Bx b0_ 134 [I a0.1, h0_1, .map (some h0_2), h0_4, u0_4, u0_5, u0_6, h0_5, u0_8] :: OwnS 3 1 h0_1 (a0.2.1.map cI) :: MS (fun k : Int × Int => .agg #[I k.1, I k.2]) 3 1 cI h0_2 hs19 (y18) :: OwnS 4 1 h0_4 ((a0.2.2.2.1.set a1.toNat true).map cB) :: OwnS 3 1 h0_5 ((a0.2.2.2.2.set a1.toNat x14).map cI) :: L) a w) (fun y24 => fun a w => ∃ hs25 : (Int × Int) → Value, Mid 60 B [] (Bx b0_ 134 [I a0.1, h0_1, .map (some h0_2), h0_4, u0_4, u0_5, u0_6, h0_5, u0_8] :: OwnS 3 1 h0_1 (a0.2.1.map cI) :: MS (fun k : Int × Int => .agg #[I k.1, I k.2]) 3 1 cI h0_2 hs25 (y24) :: OwnS 4 1 h0_4 ((a0.2.2.2.1.set a1.toNat true).map cB) :: OwnS 3 1 h0_5 ((a0.2.2.2.2.set a1.toNat x14).map cI) :: L) a w) (fun (_ : Unit) _ _ => False) ?_ ?_ ?_ ?_
    · rintro ⟨y18, x20⟩ o26r hb28 a w ⟨hs19, he, hs⟩
      dsimp only [F94_L0] at hb28
      refine TC.use ?_ he hs
      refine TC.k ?_
      refine TC.region ?_
      refine TO.s rfl rfl rfl (StepS.cmp rfl rfl rfl) ?_
      refine TO.code ?_
      refine TC.k ?_
      refine TC.cond rfl (fun hc29 => ?_) (fun hc29 => ?_)
      · replace hb28 := cond_t hc29 hb28
        refine TC.skipk ?_
        refine TC.k ?_
        obtain ⟨y30, hj32, hb28⟩ := bind_some hb28
        first | refine TC.cutM (fun a w => ∃ hs31 : (Int × Int) → Value, Mid 60 B [(0, .pointer (some ⟨b0_, 0, none⟩)), (1, I a1), (35, I a0.1), (36, I x20)] (Bx b0_ 134 [I a0.1, h0_1, .map (some h0_2), h0_4, u0_4, u0_5, u0_6, h0_5, u0_8] :: OwnS 3 1 h0_1 (a0.2.1.map cI) :: MS (fun k : Int × Int => .agg #[I k.1, I k.2]) 3 1 cI h0_2 hs31 (y30) :: OwnS 4 1 h0_4 ((a0.2.2.2.1.set a1.toNat true).map cB) :: OwnS 3 1 h0_5 ((a0.2.2.2.2.set a1.toNat x14).map cI) :: L) a w) ?_ ?_ | refine TC.cutX (fun a w => ∃ hs31 : (Int × Int) → Value, Mid 60 B [(0, .pointer (some ⟨b0_, 0, none⟩)), (1, I a1), (35, I a0.1), (36, I x20)] (Bx b0_ 134 [I a0.1, h0_1, .map (some h0_2), h0_4, u0_4, u0_5, u0_6, h0_5, u0_8] :: OwnS 3 1 h0_1 (a0.2.1.map cI) :: MS (fun k : Int × Int => .agg #[I k.1, I k.2]) 3 1 cI h0_2 hs31 (y30) :: OwnS 4 1 h0_4 ((a0.2.2.2.1.set a1.toNat true).map cB) :: OwnS 3 1 h0_5 ((a0.2.2.2.2.set a1.toNat x14).map cI) :: L) a w) ?_ ?_
        · refine TC.block ?_
          refine TC.k ?_
          refine TC.region ?_
          refine TO.s rfl rfl rfl (StepS.move rfl) ?_
          refine TO.s rfl rfl rfl (StepS.assign rfl) ?_
          refine TO.code ?_
          refine TC.k ?_
          refine TC.region ?_
          refine TO.s rfl rfl rfl (StepS.move rfl) ?_
          refine TO.s rfl rfl rfl (StepS.move rfl) ?_
          refine TO.s rfl rfl rfl (StepS.cmp rfl rfl rfl) ?_
          refine TO.code ?_
          refine TC.cond rfl (fun hc33 => ?_) (fun hc33 => ?_)
          · replace hj32 := cond_t hc33 hj32
            obtain ⟨y35, hj37, hj32⟩ := bind_some hj32
            first | refine TC.cutM (fun a w => ∃ hs36 : (Int × Int) → Value, Mid 60 B [(0, .pointer (some ⟨b0_, 0, none⟩)), (1, I a1), (35, I a0.1), (36, I x20)] (Bx b0_ 134 [I a0.1, h0_1, .map (some h0_2), h0_4, u0_4, u0_5, u0_6, h0_5, u0_8] :: OwnS 3 1 h0_1 (a0.2.1.map cI) :: MS (fun k : Int × Int => .agg #[I k.1, I k.2]) 3 1 cI h0_2 hs36 (y35) :: OwnS 4 1 h0_4 ((a0.2.2.2.1.set a1.toNat true).map cB) :: OwnS 3 1 h0_5 ((a0.2.2.2.2.set a1.toNat x14).map cI) :: L) a w) ?_ ?_ | refine TC.cutX (fun a w => ∃ hs36 : (Int × Int) → Value, Mid 60 B [(0, .pointer (some ⟨b0_, 0, none⟩)), (1, I a1), (35, I a0.1), (36, I x20)] (Bx b0_ 134 [I a0.1, h0_1, .map (some h0_2), h0_4, u0_4, u0_5, u0_6, h0_5, u0_8] :: OwnS 3 1 h0_1 (a0.2.1.map cI) :: MS (fun k : Int × Int => .agg #[I k.1, I k.2]) 3 1 cI h0_2 hs36 (y35) :: OwnS 4 1 h0_4 ((a0.2.2.2.1.set a1.toNat true).map cB) :: OwnS 3 1 h0_5 ((a0.2.2.2.2.set a1.toNat x14).map cI) :: L) a w) ?_ ?_
            · obtain ⟨yq34_16_2, hkq34_16_3, hj37⟩ := bind_some hj37
              refine TC.region_any (Bx b0_ 134 [I a0.1, h0_1, .map (some h0_2), h0_4, u0_4, u0_5, u0_6, h0_5, u0_8] :: OwnS 3 1 h0_1 (a0.2.1.map cI) :: OwnS 4 1 h0_4 ((a0.2.2.2.1.set a1.toNat true).map cB) :: OwnS 3 1 h0_5 ((a0.2.2.2.2.set a1.toNat x14).map cI) :: L) 17 18 kfollows_mixedOrders_true rfl ?_
              refine TA.takeW 0 rfl rfl rfl rfl (StepS.move rfl) (by kernel_rfl) (by kernel_rfl) (by kernel_rfl) rfl (.inr (fun _ s => Sat.by [4, 4, 3, 3] 4 1 (by kernel_rfl) s)) ?_
              refine TA.takeW 1 rfl rfl rfl rfl (StepS.nilc rfl) (by kernel_rfl) (by kernel_rfl) (by kernel_rfl) rfl (.inr (fun _ s => Sat.by [4, 4, 3, 3] 4 1 (by kernel_rfl) s)) ?_
              refine TA.takeW 2 rfl rfl rfl rfl (StepS.fld rfl kfieldB_134_2_2_true) (by kernel_rfl) (by kernel_rfl) (by kernel_rfl) rfl (.inr (fun _ s => Sat.by [4, 4, 3, 3] 4 1 (by kernel_rfl) s)) ?_
              refine TA.take 3 rfl rfl rfl rfl (StepS.ldB rfl (Ent.at 0 rfl) kscalB_131_true rfl) (by kernel_rfl) (by kernel_rfl) (by kernel_rfl) (by kernel_rfl) (by kernel_rfl) (fun _ s => Sat.by [4, 4, 3, 3] 4 1 (by kernel_rfl) s) ?_
              refine TA.takeW 4 rfl rfl rfl rfl (StepS.move rfl) (by kernel_rfl) (by kernel_rfl) (by kernel_rfl) rfl (.inr (fun _ s => Sat.by [4, 4, 3, 3] 4 1 (by kernel_rfl) s)) ?_
              refine TA.takeW 5 rfl rfl rfl rfl (StepS.move rfl) (by kernel_rfl) (by kernel_rfl) (by kernel_rfl) rfl (.inr (fun _ s => Sat.by [4, 4, 3, 3] 4 1 (by kernel_rfl) s)) ?_
              refine TA.takeW 6 rfl rfl rfl rfl (StepS.build (cs := [I a1, I x20]) rfl (by kernel_rfl)) (by kernel_rfl) (by kernel_rfl) (by kernel_rfl) rfl (.inr (fun _ s => Sat.by [4, 4, 3, 3] 4 1 (by kernel_rfl) s)) ?_
              refine TA.takeW 7 rfl rfl rfl rfl (StepS.move rfl) (by kernel_rfl) (by kernel_rfl) (by kernel_rfl) rfl (.inr (fun _ s => Sat.by [4, 4, 3, 3] 4 1 (by kernel_rfl) s)) ?_
              refine TA.takeW 8 rfl rfl rfl rfl (StepS.nilc rfl) (by kernel_rfl) (by kernel_rfl) (by kernel_rfl) rfl (.inr (fun _ s => Sat.by [4, 4, 3, 3] 4 1 (by kernel_rfl) s)) ?_
              refine TA.takeW 9 rfl rfl rfl rfl (StepS.fld rfl kfieldB_134_2_2_true) (by kernel_rfl) (by kernel_rfl) (by kernel_rfl) rfl (.inr (fun _ s => Sat.by [4, 4, 3, 3] 4 1 (by kernel_rfl) s)) ?_
              refine TA.take 10 rfl rfl rfl rfl (StepS.ldB rfl (Ent.at 0 rfl) kscalB_131_true rfl) (by kernel_rfl) (by kernel_rfl) (by kernel_rfl) (by kernel_rfl) (by kernel_rfl) (fun _ s => Sat.by [4, 4, 3, 3] 4 1 (by kernel_rfl) s) ?_
              refine TA.takeW 11 rfl rfl rfl rfl (StepS.move rfl) (by kernel_rfl) (by kernel_rfl) (by kernel_rfl) rfl (.inr (fun _ s => Sat.by [4, 4, 3, 3] 4 1 (by kernel_rfl) s)) ?_
              refine TA.takeW 12 rfl rfl rfl rfl (StepS.move rfl) (by kernel_rfl) (by kernel_rfl) (by kernel_rfl) rfl (.inr (fun _ s => Sat.by [4, 4, 3, 3] 4 1 (by kernel_rfl) s)) ?_
              refine TA.takeW 13 rfl rfl rfl rfl (StepS.build (cs := [I a1, I x20]) rfl (by kernel_rfl)) (by kernel_rfl) (by kernel_rfl) (by kernel_rfl) rfl (.inr (fun _ s => Sat.by [4, 4, 3, 3] 4 1 (by kernel_rfl) s)) ?_
              refine TA.all2 (i := 14) (j := 15) (by kernel_rfl) ?_ ?_
              · refine TB.of rfl ?_
                refine TO.s rfl rfl rfl (StepS.lookMS (k := (a1, x20)) kmapGB_131_114_22_true (KeyOk.pair kunderlying_114_some_array_2_3 kunderlying_3_some_int_i64 ksizeB_3_1_true kscalB_3_true) kinfo_22_bind_zero_some_slice_none_0_0 rfl (Ent.at 2 rfl) rfl) ?_
                refine TA.back (.inr (fun _ s => Sat.by [4, 4, 3, 3] 4 1 (by kernel_rfl) s)) ?_
                refine TA.asL (L' := (Bx b0_ 134 [I a0.1, h0_1, .map (some h0_2), h0_4, u0_4, u0_5, u0_6, h0_5, u0_8] :: OwnS 3 1 h0_1 (a0.2.1.map cI) :: MS (fun k : Int × Int => .agg #[I k.1, I k.2]) 3 1 cI h0_2 hs19 (y18) :: OwnS 4 1 h0_4 ((a0.2.2.2.1.set a1.toNat true).map cB) :: OwnS 3 1 h0_5 ((a0.2.2.2.2.set a1.toNat x14).map cI) :: L)) (listed' := #[true, true, true, true, true, true, true, true, true, true, true, true, true, true, true, false, false, false]) (by kernel_rfl) (by kernel_rfl) ?_
                refine TA.all1 (i := 15) (by kernel_rfl) ?_
                refine TB.of rfl ?_
                refine TO.litS (f := cI) ([0] : List Int) kelemB_22_3_1_8_true kinfo_3_bind_zero_some_I_0 rfl rfl (fun _ => rfl) rfl rfl (by kernel_rfl) rfl fun vq34_15_1 => ?_
                refine TA.back (.inr (fun _ s => Sat.by [5, 5, 4, 4] 4 2 (by kernel_rfl) s)) ?_
                refine TA.asL (L' := (OwnS 3 1 vq34_15_1 (([0] : List Int).map cI) :: Bx b0_ 134 [I a0.1, h0_1, .map (some h0_2), h0_4, u0_4, u0_5, u0_6, h0_5, u0_8] :: OwnS 3 1 h0_1 (a0.2.1.map cI) :: MS (fun k : Int × Int => .agg #[I k.1, I k.2]) 3 1 cI h0_2 hs19 (y18) :: OwnS 4 1 h0_4 ((a0.2.2.2.1.set a1.toNat true).map cB) :: OwnS 3 1 h0_5 ((a0.2.2.2.2.set a1.toNat x14).map cI) :: L)) (listed' := #[true, true, true, true, true, true, true, true, true, true, true, true, true, true, true, true, false, false]) (by kernel_rfl) (by kernel_rfl) ?_
                refine TA.all1 (i := 16) (by kernel_rfl) ?_
                refine TB.of rfl ?_
                refine TO.ghost (fun _ s => Sat.front 3 rfl s) ?_
                refine TO.ghost (fun _ s => Sat.openMS (a1, x20) s) ?_
                refine TO.app (k := 0) (f := cI) kelemB_22_3_1_8_true (by decide) rfl rfl rfl (OwnS.rd (Ent.at 2 rfl)) hkq34_16_3 (fun x c hc => by simp [Value.oneCell'] at hc ⊢; first | (obtain rfl := hc; rfl) | (rcases hc with rfl <;> rfl)) rfl rfl fun vq34_16_4 => ?_
                refine TA.back (.inr (fun _ s => Sat.by [6, 6, 6, 6] 4 3 (by kernel_rfl) s)) ?_
                refine TA.asL (L' := (OwnS 3 1 vq34_16_4 (yq34_16_2.map cI) :: MSh (fun k : Int × Int => .agg #[I k.1, I k.2]) 3 1 cI h0_2 hs19 (y18) (a1, x20) :: OwnS 3 1 vq34_15_1 (([0] : List Int).map cI) :: Bx b0_ 134 [I a0.1, h0_1, .map (some h0_2), h0_4, u0_4, u0_5, u0_6, h0_5, u0_8] :: OwnS 3 1 h0_1 (a0.2.1.map cI) :: OwnS 4 1 h0_4 ((a0.2.2.2.1.set a1.toNat true).map cB) :: OwnS 3 1 h0_5 ((a0.2.2.2.2.set a1.toNat x14).map cI) :: L)) (listed' := #[true, true, true, true, true, true, true, true, true, true, true, true, true, true, true, true, true, false]) (by kernel_rfl) (by kernel_rfl) ?_
                refine TA.all1 (i := 17) (by kernel_rfl) ?_
                refine TB.of rfl ?_
                refine TO.ghost (fun _ s => Sat.front 1 rfl s) ?_
                refine TO.msetS (k := (a1, x20)) (ys := yq34_16_2) kmapGB_131_114_22_true (KeyOk.pair kunderlying_114_some_array_2_3 kunderlying_3_some_int_i64 ksizeB_3_1_true kscalB_3_true) rfl rfl rfl fun hsq34_17_1 => ?_
                refine TA.back (.inl (by kernel_rfl)) ?_
                refine TA.asL (L' := (MS (fun k : Int × Int => .agg #[I k.1, I k.2]) 3 1 cI h0_2 hsq34_17_1 (mupd y18 (a1, x20) yq34_16_2) :: OwnS 3 1 vq34_15_1 (([0] : List Int).map cI) :: Bx b0_ 134 [I a0.1, h0_1, .map (some h0_2), h0_4, u0_4, u0_5, u0_6, h0_5, u0_8] :: OwnS 3 1 h0_1 (a0.2.1.map cI) :: OwnS 4 1 h0_4 ((a0.2.2.2.1.set a1.toNat true).map cB) :: OwnS 3 1 h0_5 ((a0.2.2.2.2.set a1.toNat x14).map cI) :: L)) (listed' := #[true, true, true, true, true, true, true, true, true, true, true, true, true, true, true, true, true, true]) (by kernel_rfl) (by kernel_rfl) ?_
                cases hj37
                refine TA.nil (by kernel_rfl) fun a w e s => ?_
                exact ⟨hsq34_17_1, e.sub (lk_of_allIn ⟨rfl, rfl, rfl, rfl, trivial⟩), s.mono fun _ s => (by exact Sat.by [5, 5, 2, 5, 5] 5 1 (by kernel_rfl) s)⟩
              · refine TB.of rfl ?_
                refine TO.litS (f := cI) ([0] : List Int) kelemB_22_3_1_8_true kinfo_3_bind_zero_some_I_0 rfl rfl (fun _ => rfl) rfl rfl (by kernel_rfl) rfl fun vq34_15_1 => ?_
                refine TA.back (.inr (fun _ s => Sat.by [5, 5, 4, 4] 4 2 (by kernel_rfl) s)) ?_
                refine TA.asL (L' := (OwnS 3 1 vq34_15_1 (([0] : List Int).map cI) :: Bx b0_ 134 [I a0.1, h0_1, .map (some h0_2), h0_4, u0_4, u0_5, u0_6, h0_5, u0_8] :: OwnS 3 1 h0_1 (a0.2.1.map cI) :: MS (fun k : Int × Int => .agg #[I k.1, I k.2]) 3 1 cI h0_2 hs19 (y18) :: OwnS 4 1 h0_4 ((a0.2.2.2.1.set a1.toNat true).map cB) :: OwnS 3 1 h0_5 ((a0.2.2.2.2.set a1.toNat x14).map cI) :: L)) (listed' := #[true, true, true, true, true, true, true, true, true, true, true, true, true, true, false, true, false, false]) (by kernel_rfl) (by kernel_rfl) ?_
                refine TA.all1 (i := 14) (by kernel_rfl) ?_
                refine TB.of rfl ?_
                refine TO.s rfl rfl rfl (StepS.lookMS (k := (a1, x20)) kmapGB_131_114_22_true (KeyOk.pair kunderlying_114_some_array_2_3 kunderlying_3_some_int_i64 ksizeB_3_1_true kscalB_3_true) kinfo_22_bind_zero_some_slice_none_0_0 rfl (Ent.at 3 rfl) rfl) ?_
                refine TA.back (.inr (fun _ s => Sat.by [5, 5, 4, 4] 4 2 (by kernel_rfl) s)) ?_
                refine TA.asL (L' := (OwnS 3 1 vq34_15_1 (([0] : List Int).map cI) :: Bx b0_ 134 [I a0.1, h0_1, .map (some h0_2), h0_4, u0_4, u0_5, u0_6, h0_5, u0_8] :: OwnS 3 1 h0_1 (a0.2.1.map cI) :: MS (fun k : Int × Int => .agg #[I k.1, I k.2]) 3 1 cI h0_2 hs19 (y18) :: OwnS 4 1 h0_4 ((a0.2.2.2.1.set a1.toNat true).map cB) :: OwnS 3 1 h0_5 ((a0.2.2.2.2.set a1.toNat x14).map cI) :: L)) (listed' := #[true, true, true, true, true, true, true, true, true, true, true, true, true, true, true, true, false, false]) (by kernel_rfl) (by kernel_rfl) ?_
                refine TA.all1 (i := 16) (by kernel_rfl) ?_
                refine TB.of rfl ?_
                refine TO.ghost (fun _ s => Sat.front 3 rfl s) ?_
                refine TO.ghost (fun _ s => Sat.openMS (a1, x20) s) ?_
                refine TO.app (k := 0) (f := cI) kelemB_22_3_1_8_true (by decide) rfl rfl rfl (OwnS.rd (Ent.at 2 rfl)) hkq34_16_3 (fun x c hc => by simp [Value.oneCell'] at hc ⊢; first | (obtain rfl := hc; rfl) | (rcases hc with rfl <;> rfl)) rfl rfl fun vq34_16_4 => ?_
                refine TA.back (.inr (fun _ s => Sat.by [6, 6, 6, 6] 4 3 (by kernel_rfl) s)) ?_
                refine TA.asL (L' := (OwnS 3 1 vq34_16_4 (yq34_16_2.map cI) :: MSh (fun k : Int × Int => .agg #[I k.1, I k.2]) 3 1 cI h0_2 hs19 (y18) (a1, x20) :: OwnS 3 1 vq34_15_1 (([0] : List Int).map cI) :: Bx b0_ 134 [I a0.1, h0_1, .map (some h0_2), h0_4, u0_4, u0_5, u0_6, h0_5, u0_8] :: OwnS 3 1 h0_1 (a0.2.1.map cI) :: OwnS 4 1 h0_4 ((a0.2.2.2.1.set a1.toNat true).map cB) :: OwnS 3 1 h0_5 ((a0.2.2.2.2.set a1.toNat x14).map cI) :: L)) (listed' := #[true, true, true, true, true, true, true, true, true, true, true, true, true, true, true, true, true, false]) (by kernel_rfl) (by kernel_rfl) ?_
                refine TA.all1 (i := 17) (by kernel_rfl) ?_
                refine TB.of rfl ?_
                refine TO.ghost (fun _ s => Sat.front 1 rfl s) ?_
                refine TO.msetS (k := (a1, x20)) (ys := yq34_16_2) kmapGB_131_114_22_true (KeyOk.pair kunderlying_114_some_array_2_3 kunderlying_3_some_int_i64 ksizeB_3_1_true kscalB_3_true) rfl rfl rfl fun hsq34_17_1 => ?_
                refine TA.back (.inl (by kernel_rfl)) ?_
                refine TA.asL (L' := (MS (fun k : Int × Int => .agg #[I k.1, I k.2]) 3 1 cI h0_2 hsq34_17_1 (mupd y18 (a1, x20) yq34_16_2) :: OwnS 3 1 vq34_15_1 (([0] : List Int).map cI) :: Bx b0_ 134 [I a0.1, h0_1, .map (some h0_2), h0_4, u0_4, u0_5, u0_6, h0_5, u0_8] :: OwnS 3 1 h0_1 (a0.2.1.map cI) :: OwnS 4 1 h0_4 ((a0.2.2.2.1.set a1.toNat true).map cB) :: OwnS 3 1 h0_5 ((a0.2.2.2.2.set a1.toNat x14).map cI) :: L)) (listed' := #[true, true, true, true, true, true, true, true, true, true, true, true, true, true, true, true, true, true]) (by kernel_rfl) (by kernel_rfl) ?_
                cases hj37
                refine TA.nil (by kernel_rfl) fun a w e s => ?_
                exact ⟨hsq34_17_1, e.sub (lk_of_allIn ⟨rfl, rfl, rfl, rfl, trivial⟩), s.mono fun _ s => (by exact Sat.by [5, 5, 2, 5, 5] 5 1 (by kernel_rfl) s)⟩
            · intro a w ⟨hs36, he, hs⟩
              cases hj32
              have e := he; have s := hs
              exact ⟨hs36, e.sub (lk_of_allIn ⟨rfl, rfl, rfl, rfl, trivial⟩), s⟩
          · replace hj32 := cond_f hc33 hj32
            cases hj32
            refine TC.skip fun a w e s => ?_
            exact ⟨hs19, e.sub (lk_of_allIn ⟨rfl, rfl, rfl, rfl, trivial⟩), s⟩
        · intro a w ⟨hs31, he, hs⟩
          refine TC.use ?_ he hs
          refine TC.region ?_
          refine TO.s rfl rfl rfl (StepS.ari rfl rfl rfl) ?_
          refine TO.s rfl rfl rfl (StepS.move rfl) ?_
          cases hb28
          refine TO.nil fun a w e s => ?_
          exact ⟨hs31, e.sub (lk_of_allIn ⟨rfl, rfl, rfl, rfl, trivial⟩), s⟩
      · replace hb28 := cond_f hc29 hb28
        cases hb28
        refine TC.exit rfl fun a w e s => ?_
        exact ⟨hs19, e.sub (lk_of_allIn trivial), s⟩
    · exact fun a w e s => ⟨h0_3, e.sub (lk_of_allIn ⟨rfl, rfl, rfl, rfl, trivial⟩), s⟩
    · rintro y24 rfl a w ⟨hs25, he, hs⟩
      dsimp only [Ctl.on] at hm
      cases hm
      have e := he; have s := hs
      refine FRet.mk0 (P := Try.prog) (fn := Try.f94) e rfl ?_
      refine ⟨_, _, rfl, ⟨h0_2, hs25, rfl, rfl⟩, ?_⟩
      refine s.mono fun _ s => ?_
      replace s := Sat.front 4 rfl s
      replace s := Sat.front 4 rfl s
      replace s := Sat.front 4 rfl s
      replace s := Sat.front 4 rfl s
      replace s := Sat.front 4 rfl s
      exact s
    · rintro r rfl
      exact fun a w h => h.elim

set_option maxRecDepth 100000 in
theorem C93 {B : World} {L : List HP} {a0 : Int × (List Int) × ((Int × Int) → Option (List Int)) × (List Bool) × ((Int × Int) → Option Bool) × (List Int) × List (List Int)} {a1 : Int} {a2 : Int} {b0_ : Nat} {u0_5 : Value} {u0_6 : Value} {h0_1 : Value} {h0_2 : Nat} {h0_3 : (Int × Int) → Value} {h0_4 : Value} {h0_5 : Nat} {h0_6 : Value} {h0_7 : Value} {h0_8 : List Value} {r0 : Int} {s0 : Int × (List Int) × ((Int × Int) → Option (List Int)) × (List Bool) × ((Int × Int) → Option Bool) × (List Int) × List (List Int)} (hm : F93 a0 a1 a2 = some (r0, s0)) {w : World} (st : St B (Bx b0_ 134 [I a0.1, h0_1, .map (some h0_2), h0_4, .map (some h0_5), u0_5, u0_6, h0_6, h0_7] :: OwnS 3 1 h0_1 (a0.2.1.map cI) :: MS (fun k : Int × Int => .agg #[I k.1, I k.2]) 3 1 cI h0_2 h0_3 (a0.2.2.1) :: OwnS 4 1 h0_4 (a0.2.2.2.1.map cB) :: MF (fun k : Int × Int => .agg #[I k.1, I k.2]) (fun x : Bool => .bool x) h0_5 (a0.2.2.2.2.1) :: OwnS 3 1 h0_6 (a0.2.2.2.2.2.1.map cI) :: SS 22 3 1 cI h0_7 h0_8 (a0.2.2.2.2.2.2) :: L) w) : Calls Try.prog 93 #[.pointer (some ⟨b0_, 0, none⟩), I a1, I a2] w (fun e w' => ∃ v M, e = .returned v ∧ (∃ (qr1 : Nat) (qhd2 : (Int × Int) → Value) (qr3 : Nat) (qhs4 : List Value), v = I r0 ∧ M = (Bx b0_ 134 [I s0.1, h0_1, .map (some qr1), h0_4, .map (some qr3), u0_5, u0_6, h0_6, h0_7] :: OwnS 3 1 h0_1 (s0.2.1.map cI) :: MS (fun k : Int × Int => .agg #[I k.1, I k.2]) 3 1 cI qr1 qhd2 (s0.2.2.1) :: OwnS 4 1 h0_4 (s0.2.2.2.1.map cB) :: MF (fun k : Int × Int => .agg #[I k.1, I k.2]) (fun x : Bool => .bool x) qr3 (s0.2.2.2.2.1) :: OwnS 3 1 h0_6 (s0.2.2.2.2.2.1.map cI) :: SS 22 3 1 cI h0_7 qhs4 (s0.2.2.2.2.2.2) :: L)) ∧ St B M w') := by
  refine calls_of (N := 90) (L := (Bx b0_ 134 [I a0.1, h0_1, .map (some h0_2), h0_4, .map (some h0_5), u0_5, u0_6, h0_6, h0_7] :: OwnS 3 1 h0_1 (a0.2.1.map cI) :: MS (fun k : Int × Int => .agg #[I k.1, I k.2]) 3 1 cI h0_2 h0_3 (a0.2.2.1) :: OwnS 4 1 h0_4 (a0.2.2.2.1.map cB) :: MF (fun k : Int × Int => .agg #[I k.1, I k.2]) (fun x : Bool => .bool x) h0_5 (a0.2.2.2.2.1) :: OwnS 3 1 h0_6 (a0.2.2.2.2.2.1.map cI) :: SS 22 3 1 cI h0_7 h0_8 (a0.2.2.2.2.2.2) :: L)) (args := [.pointer (some ⟨b0_, 0, none⟩), I a1, I a2]) Try.func93 rfl rfl rfl ?_ st
  dsimp only [F93] at hm
  refine TC.k ?_
  refine TC.region ?_
  refine TO.s rfl rfl rfl (StepS.assign rfl) ?_
  refine TO.code ?_
  refine TC.k ?_
  refine TC.region ?_
  refine TO.s rfl rfl rfl (StepS.move rfl) ?_
  refine TO.s rfl rfl rfl (StepS.move rfl) ?_
  refine TO.s rfl rfl rfl (StepS.build (cs := [I a1, I a2]) rfl (by kernel_rfl)) ?_
  refine TO.alloc kinfo_114_bind_zero_some_agg_I_0_I_0 rfl rfl fun b13 => ?_
  refine TO.stB (us := [I a1, I a2]) 0 [I a1, I a2] rfl rfl rfl ksizeB_114_2_true rfl rfl rfl (by simp [Value.oneCell']) rfl ?_
  refine TO.code ?_
  refine TC.k ?_
  refine TC.k ?_
  refine TC.region_still kfollows_mixedOrders_true (by kernel_rfl) ?_
  refine TS.s rfl rfl rfl (StepS.move rfl) ?_
  refine TS.s rfl rfl rfl (StepS.nilc rfl) ?_
  refine TS.s rfl rfl rfl (StepS.fld rfl kfieldB_134_2_2_true) ?_
  refine TS.s rfl rfl rfl (StepS.ldB rfl (Ent.at 1 rfl) kscalB_131_true rfl) ?_
  refine TS.s rfl rfl rfl (StepS.ldBA rfl (Ent.at 0 rfl) kaggB_114_2_true rfl rfl) ?_
  refine TS.s rfl rfl rfl (StepS.lookMS (k := (a1, a2)) kmapGB_131_114_22_true (KeyOk.pair kunderlying_114_some_array_2_3 kunderlying_3_some_int_i64 ksizeB_3_1_true kscalB_3_true) kinfo_22_bind_zero_some_slice_none_0_0 rfl (Ent.at 3 rfl) rfl) ?_
  refine TS.s rfl rfl rfl (StepS.lenm rfl (MS.row (k := (a1, a2)) (Ent.at 3 rfl)) ksliceB_22_3_1_true rfl) ?_
  refine TS.s rfl rfl rfl (StepS.cmp rfl rfl rfl) ?_
  refine TS.code ?_
  refine TC.cond rfl (fun hc14 => ?_) (fun hc14 => ?_)
  · replace hm := cond_t hc14 hm
    refine TC.k ?_
    refine TC.region ?_
    refine TO.s rfl rfl rfl (StepS.assign rfl) ?_
    refine TO.code ?_
    cases hm
    refine TC.ret fun a w e s => ?_
    refine FRet.mk1 (P := Try.prog) (fn := Try.f93) (t := 6) e rfl rfl ?_
    refine ⟨_, _, rfl, ⟨h0_2, h0_3, h0_5, (h0_8), rfl, rfl⟩, ?_⟩
    refine s.mono fun _ s => ?_
    replace s := Sat.front 7 rfl s
    replace s := Sat.front 7 rfl s
    replace s := Sat.front 7 rfl s
    replace s := Sat.front 7 rfl s
    replace s := Sat.front 7 rfl s
    replace s := Sat.front 7 rfl s
    replace s := Sat.front 7 rfl s
    replace s := Sat.erase 7 s
    exact s
  · replace hm := cond_f hc14 hm
    refine TC.skipk ?_
    refine TC.k ?_
    refine TC.region_still kfollows_mixedOrders_true (by kernel_rfl) ?_
    refine TS.s rfl rfl rfl (StepS.move rfl) ?_
    refine TS.s rfl rfl rfl (StepS.nilc rfl) ?_
    refine TS.s rfl rfl rfl (StepS.fld rfl kfieldB_134_2_2_true) ?_
    refine TS.s rfl rfl rfl (StepS.ldB rfl (Ent.at 1 rfl) kscalB_131_true rfl) ?_
    refine TS.s rfl rfl rfl (StepS.ldBA rfl (Ent.at 0 rfl) kaggB_114_2_true rfl rfl) ?_
    refine TS.s rfl rfl rfl (StepS.lookMS (k := (a1, a2)) kmapGB_131_114_22_true (KeyOk.pair kunderlying_114_some_array_2_3 kunderlying_3_some_int_i64 ksizeB_3_1_true kscalB_3_true) kinfo_22_bind_zero_some_slice_none_0_0 rfl (Ent.at 3 rfl) rfl) ?_
    obtain ⟨x15, hx16, hm⟩ := bind_some hm
    refine TS.s rfl rfl rfl (StepS.idx rfl rfl (MS.row (k := (a1, a2)) (Ent.at 3 rfl)) ksliceB_22_3_1_true (idx_spec hx16).1 (idxm_lt hx16)) ?_
    refine TS.s rfl rfl rfl (StepS.ld0 rfl (MS.row (k := (a1, a2)) (Ent.at 3 rfl)) kscalB_3_true rfl (idxm hx16) rfl) ?_
    refine TS.s rfl rfl rfl (StepS.assign rfl) ?_
    refine TS.code ?_
    refine TC.k ?_
    refine TC.region_tail 12 kfollows_mixedOrders_true (by kernel_rfl) ?_
    refine TS.s rfl rfl rfl (StepS.move rfl) ?_
    refine TS.s rfl rfl rfl (StepS.nilc rfl) ?_
    refine TS.s rfl rfl rfl (StepS.fld rfl kfieldB_134_2_2_true) ?_
    refine TS.s rfl rfl rfl (StepS.ldB rfl (Ent.at 1 rfl) kscalB_131_true rfl) ?_
    refine TS.s rfl rfl rfl (StepS.ldBA rfl (Ent.at 0 rfl) kaggB_114_2_true rfl rfl) ?_
    refine TS.s rfl rfl rfl (StepS.move rfl) ?_
    refine TS.s rfl rfl rfl (StepS.nilc rfl) ?_
    refine TS.s rfl rfl rfl (StepS.fld rfl kfieldB_134_2_2_true) ?_
    refine TS.s rfl rfl rfl (StepS.ldB rfl (Ent.at 1 rfl) kscalB_131_true rfl) ?_
    refine TS.s rfl rfl rfl (StepS.ldBA rfl (Ent.at 0 rfl) kaggB_114_2_true rfl rfl) ?_
    refine TS.s rfl rfl rfl (StepS.lookMS (k := (a1, a2)) kmapGB_131_114_22_true (KeyOk.pair kunderlying_114_some_array_2_3 kunderlying_3_some_int_i64 ksizeB_3_1_true kscalB_3_true) kinfo_22_bind_zero_some_slice_none_0_0 rfl (Ent.at 3 rfl) rfl) ?_
    obtain ⟨y17, hs18, hm⟩ := bind_some hm
    obtain ⟨hs18a, hs18b, hs18c, _⟩ := slI_spec hs18
    refine TS.s rfl rfl rfl (StepS.slc rfl (MS.row (k := (a1, a2)) (Ent.at 3 rfl)) ksliceB_22_3_1_true rfl (by simp [bnd]) hs18a hs18b (by simpa using hs18c)) ?_
    refine TS.nil ?_
    refine TO.at ?_
    refine TO.ghost (fun _ s => Sat.front 3 rfl s) ?_
    refine TO.ghost (fun _ s => Sat.openMS (a1, a2) s) ?_
    refine TO.ghost (fun _ s => Sat.cutF 0 rfl hs18 s) ?_
    refine TO.ghost (fun _ s => Sat.front 1 rfl s) ?_
    refine TO.msetS (k := (a1, a2)) (ys := y17) kmapGB_131_114_22_true (KeyOk.pair kunderlying_114_some_array_2_3 kunderlying_3_some_int_i64 ksizeB_3_1_true kscalB_3_true) rfl rfl rfl fun hs21 => ?_
    refine TO.code ?_
    refine TC.k ?_
    refine TC.k ?_
    refine TC.region ?_
    refine TO.s rfl rfl rfl (StepS.move rfl) ?_
    refine TO.s rfl rfl rfl (StepS.cmp rfl rfl rfl) ?_
    refine TO.code ?_
    refine TC.cond rfl (fun hc22 => ?_) (fun hc22 => ?_)
    · replace hm := cond_t hc22 hm
      refine TC.k ?_
      refine TC.region ?_
      refine TO.s rfl rfl rfl (StepS.move rfl) ?_
      refine TO.s rfl rfl rfl (StepS.move rfl) ?_
      refine TO.ghost (fun _ s => Sat.front 6 rfl s) ?_
      refine TO.ghost (fun _ s => Sat.front 5 rfl s) ?_
      refine TO.ghost (fun _ s => Sat.front 2 rfl s) ?_
      refine TO.ghost (fun _ s => Sat.front 5 rfl s) ?_
      refine TO.ghost (fun _ s => Sat.front 5 rfl s) ?_
      obtain ⟨r23, hc24, hm⟩ := bind_some hm
      refine TO.callO kcallB_94_true rfl rfl rfl (fun _ st => C94 (a0 := (a0.1, a0.2.1, mupd a0.2.2.1 (a1, a2) y17, a0.2.2.2.1, a0.2.2.2.2.2.1))  hc24 st) ?_
      rintro _ _ ⟨r26, hd27, rfl, rfl⟩
      refine TO.code ?_
      refine TC.k ?_
      refine TC.region_tail 5 kfollows_mixedOrders_true (by kernel_rfl) ?_
      refine TS.s rfl rfl rfl (StepS.move rfl) ?_
      refine TS.s rfl rfl rfl (StepS.nilc rfl) ?_
      refine TS.s rfl rfl rfl (StepS.fld rfl kfieldB_134_4_4_true) ?_
      refine TS.s rfl rfl rfl (StepS.ldB rfl (Ent.at 0 rfl) kscalB_132_true rfl) ?_
      refine TS.s rfl rfl rfl (StepS.ldBA rfl (Ent.at 5 rfl) kaggB_114_2_true rfl rfl) ?_
      refine TS.nil ?_
      refine TO.at ?_
      refine TO.msetF (k := (a1, a2)) (v := true) 6 kmapGB_132_114_4_true (KeyOk.pair kunderlying_114_some_array_2_3 kunderlying_3_some_int_i64 ksizeB_3_1_true kscalB_3_true) rfl rfl rfl rfl ?_
      refine TO.code ?_
      refine TC.k ?_
      refine TC.region ?_
      refine TO.s rfl rfl rfl (StepS.assign rfl) ?_
      refine TO.code ?_
      cases hm
      refine TC.ret fun a w e s => ?_
      refine FRet.mk1 (P := Try.prog) (fn := Try.f93) (t := 6) e rfl rfl ?_
      refine ⟨_, _, rfl, ⟨r26, hd27, h0_5, (h0_8), rfl, rfl⟩, ?_⟩
      refine s.mono fun _ s => ?_
      replace s := Sat.front 7 rfl s
      replace s := Sat.front 5 rfl s
      replace s := Sat.front 7 rfl s
      replace s := Sat.front 6 rfl s
      replace s := Sat.front 6 rfl s
      replace s := Sat.front 6 rfl s
      replace s := Sat.front 6 rfl s
      replace s := Sat.erase 7 s
      exact s
    · replace hm := cond_f hc22 hm
      refine TC.skipk ?_
      refine TC.k ?_
      refine TC.region ?_
      refine TO.s rfl rfl rfl (StepS.move rfl) ?_
      refine TO.s rfl rfl rfl (StepS.nilc rfl) ?_
      refine TO.s rfl rfl rfl (StepS.fld rfl kfieldB_134_1_1_true) ?_
      refine TO.s rfl rfl rfl (StepS.ldB rfl (Ent.at 2 rfl) kscalB_22_true rfl) ?_
      refine TO.s rfl rfl rfl (StepS.move rfl) ?_
      obtain ⟨x31, hx32, hm⟩ := bind_some hm
      refine TO.s rfl rfl rfl (StepS.idx rfl rfl (OwnS.rd (Ent.at 3 rfl)) ksliceB_22_3_1_true (idx_spec hx32).1 (idxm_lt hx32)) ?_
      refine TO.s rfl rfl rfl (StepS.ld0 rfl (OwnS.rd (Ent.at 3 rfl)) kscalB_3_true rfl (idxm hx32) rfl) ?_
      refine TO.s rfl rfl rfl (StepS.move rfl) ?_
      refine TO.s rfl rfl rfl (StepS.ari rfl rfl rfl) ?_
      obtain ⟨x33, hx34, hm⟩ := bind_some hm
      refine TO.s rfl rfl rfl (StepS.idx rfl rfl (OwnS.rd (Ent.at 3 rfl)) ksliceB_22_3_1_true (idx_spec hx34).1 (idxm_lt hx34)) ?_
      refine TO.stO (i := a2.toNat) (off := 0) (us := [I (w64 (x31 + x15))]) 3 (w64 (x31 + x15)) rfl rfl rfl ksizeB_3_1_true rfl rfl rfl (idx_spec hx34).2 rfl (by simp [Value.oneCell']) rfl ?_
      refine TO.code ?_
      refine TC.k ?_
      refine TC.k ?_
      refine TC.region_still kfollows_mixedOrders_true (by kernel_rfl) ?_
      refine TS.s rfl rfl rfl (StepS.move rfl) ?_
      refine TS.s rfl rfl rfl (StepS.nilc rfl) ?_
      refine TS.s rfl rfl rfl (StepS.fld rfl kfieldB_134_3_3_true) ?_
      refine TS.s rfl rfl rfl (StepS.ldB rfl (Ent.at 2 rfl) kscalB_115_true rfl) ?_
      refine TS.s rfl rfl rfl (StepS.move rfl) ?_
      obtain ⟨x35, hx36, hm⟩ := bind_some hm
      refine TS.s rfl rfl rfl (StepS.idx rfl rfl (OwnS.rd (Ent.at 4 rfl)) ksliceB_115_4_1_true (idx_spec hx36).1 (idxm_lt hx36)) ?_
      refine TS.s rfl rfl rfl (StepS.ld0 rfl (OwnS.rd (Ent.at 4 rfl)) kscalB_4_true rfl (idxm hx36) rfl) ?_
      refine TS.s rfl rfl rfl (StepS.move rfl) ?_
      refine TS.mid1 8 75 (.bool (x35 && (!((a0.2.2.2.2.1 (a1, a2)).getD false)))) ?_ ?_
      · refine bcase (x35) (fun hb37 => ?_) (fun hb37 => ?_)
        · refine TS.sw rfl rfl rfl hb37 rfl rfl (StepS.move rfl) ?_
          refine TS.sw rfl rfl rfl hb37 rfl rfl (StepS.nilc rfl) ?_
          refine TS.sw rfl rfl rfl hb37 rfl rfl (StepS.fld rfl kfieldB_134_4_4_true) ?_
          refine TS.sw rfl rfl rfl hb37 rfl rfl (StepS.ldB rfl (Ent.at 2 rfl) kscalB_132_true rfl) ?_
          refine TS.sw rfl rfl rfl hb37 rfl rfl (StepS.ldBA rfl (Ent.at 1 rfl) kaggB_114_2_true rfl rfl) ?_
          refine TS.sw rfl rfl rfl hb37 rfl rfl (StepS.lookF (k := (a1, a2)) kmapGB_132_114_4_true (KeyOk.pair kunderlying_114_some_array_2_3 kunderlying_3_some_int_i64 ksizeB_3_1_true kscalB_3_true) kinfo_4_bind_zero_some_bool_false rfl (Ent.at 5 rfl) rfl (getD_vf (vf := (fun x : Bool => .bool x)) (a0.2.2.2.2.1 (a1, a2)) false)) ?_
          refine TS.sw rfl rfl rfl hb37 rfl rfl (StepS.not rfl) ?_
          refine TS.s rfl rfl rfl (StepS.pickT rfl hb37 rfl) ?_
          exact TS.up1 8 0 rfl rfl (by rw [hb37]; rfl) rfl
        · refine TS.skip rfl rfl rfl (skipF hb37) rfl rfl ?_
          refine TS.skip rfl rfl rfl (skipF hb37) rfl rfl ?_
          refine TS.skip rfl rfl rfl (skipF hb37) rfl rfl ?_
          refine TS.skip rfl rfl rfl (skipF hb37) rfl rfl ?_
          refine TS.skip rfl rfl rfl (skipF hb37) rfl rfl ?_
          refine TS.skip rfl rfl rfl (skipF hb37) rfl rfl ?_
          refine TS.skip rfl rfl rfl (skipF hb37) rfl rfl ?_
          refine TS.s rfl rfl rfl (StepS.pickF rfl hb37 rfl) ?_
          exact TS.up1 8 0 rfl rfl (by rw [hb37]; rfl) rfl
      refine TS.code ?_
      obtain ⟨y38, hj39, hm⟩ := bind_some hm
      first | refine TC.cutM (fun a w => Mid 90 B [] (MS (fun k : Int × Int => .agg #[I k.1, I k.2]) 3 1 cI h0_2 hs21 (mupd a0.2.2.1 (a1, a2) y17) :: Bx b13 114 [I a1, I a2] :: Bx b0_ 134 [I a0.1, h0_1, .map (some h0_2), h0_4, .map (some h0_5), u0_5, u0_6, h0_6, h0_7] :: OwnS 3 1 h0_1 ((a0.2.1.set a2.toNat (w64 (x31 + x15))).map cI) :: OwnS 4 1 h0_4 (a0.2.2.2.1.map cB) :: MF (fun k : Int × Int => .agg #[I k.1, I k.2]) (fun x : Bool => .bool x) h0_5 (a0.2.2.2.2.1) :: OwnS 3 1 h0_6 (a0.2.2.2.2.2.1.map cI) :: SS 22 3 1 cI h0_7 h0_8 (y38) :: L) a w) ?_ ?_ | refine TC.cutX (fun a w => Mid 90 B [] (MS (fun k : Int × Int => .agg #[I k.1, I k.2]) 3 1 cI h0_2 hs21 (mupd a0.2.2.1 (a1, a2) y17) :: Bx b13 114 [I a1, I a2] :: Bx b0_ 134 [I a0.1, h0_1, .map (some h0_2), h0_4, .map (some h0_5), u0_5, u0_6, h0_6, h0_7] :: OwnS 3 1 h0_1 ((a0.2.1.set a2.toNat (w64 (x31 + x15))).map cI) :: OwnS 4 1 h0_4 (a0.2.2.2.1.map cB) :: MF (fun k : Int × Int => .agg #[I k.1, I k.2]) (fun x : Bool => .bool x) h0_5 (a0.2.2.2.2.1) :: OwnS 3 1 h0_6 (a0.2.2.2.2.2.1.map cI) :: SS 22 3 1 cI h0_7 h0_8 (y38) :: L) a w) ?_ ?_
      · refine TC.cond rfl (fun hc40 => ?_) (fun hc40 => ?_)
        · replace hj39 := cond_t hc40 hj39
          refine TC.region ?_
          refine TO.s rfl rfl rfl (StepS.move rfl) ?_
          refine TO.s rfl rfl rfl (StepS.nilc rfl) ?_
          refine TO.s rfl rfl rfl (StepS.fld rfl kfieldB_134_5_5_true) ?_
          refine TO.s rfl rfl rfl (StepS.fld rfl kfieldB_52_3_3_true) ?_
          refine TO.s rfl rfl rfl (StepS.ldB rfl (Ent.at 2 rfl) kscalB_50_true rfl) ?_
          refine TO.s rfl rfl rfl (StepS.move rfl) ?_
          obtain ⟨x41, hx42, hj39⟩ := bind_some hj39
          refine TO.s rfl rfl rfl (StepS.idxRR rfl rfl (SS.rr (Ent.at 7 rfl)) ksliceB_50_22_1_true hx42) ?_
          refine TO.s rfl rfl rfl (StepS.ldRR rfl (SS.rr (Ent.at 7 rfl)) kscalB_22_true hx42) ?_
          refine TO.s rfl rfl rfl (StepS.move rfl) ?_
          obtain ⟨x44, hx45, hj39⟩ := bind_some hj39
          refine TO.s rfl rfl rfl (StepS.idx rfl rfl (RR.row (SS.rr (Ent.at 7 rfl)) hx42) ksliceB_22_3_1_true (idx_spec hx45).1 (idxm_lt hx45)) ?_
          refine TO.s rfl rfl rfl (StepS.ld0 rfl (RR.row (SS.rr (Ent.at 7 rfl)) hx42) kscalB_3_true rfl (idxm hx45) rfl) ?_
          refine TO.s rfl rfl rfl (StepS.move rfl) ?_
          refine TO.s rfl rfl rfl (StepS.ari rfl rfl rfl) ?_
          obtain ⟨x46, hx47, hj39⟩ := bind_some hj39
          refine TO.s rfl rfl rfl (StepS.idx rfl rfl (RR.row (SS.rr (Ent.at 7 rfl)) hx42) ksliceB_22_3_1_true (idx_spec hx47).1 (idxm_lt hx47)) ?_
          refine TO.ghost (fun _ s => Sat.front 7 rfl s) ?_
          refine TO.stEl (i := a1) (j := a2.toNat) (off := 0) (us := [I (w64 (x44 + x15))]) (w64 (x44 + x15)) rfl rfl hx42 ksizeB_3_1_true rfl rfl rfl (idx_spec hx47).2 rfl (by simp [Value.oneCell']) rfl ?_
          cases hj39
          refine TO.nil fun a w e s => ?_
          exact ⟨e.sub (lk_of_allIn trivial), s.mono fun _ s => (by exact Sat.by [0, 7, 7, 7, 7, 7, 7, 7] 8 0 (by kernel_rfl) s)⟩
        · replace hj39 := cond_f hc40 hj39
          cases hj39
          refine TC.skip fun a w e s => ?_
          exact ⟨e.sub (lk_of_allIn trivial), s⟩
      · intro a w ⟨he, hs⟩
        refine TC.use ?_ he hs
        refine TC.k ?_
        refine TC.region ?_
        refine TO.s rfl rfl rfl (StepS.assign rfl) ?_
        refine TO.code ?_
        cases hm
        refine TC.ret fun a w e s => ?_
        refine FRet.mk1 (P := Try.prog) (fn := Try.f93) (t := 6) e rfl rfl ?_
        refine ⟨_, _, rfl, ⟨h0_2, hs21, h0_5, (h0_8), rfl, rfl⟩, ?_⟩
        refine s.mono fun _ s => ?_
        replace s := Sat.front 7 rfl s
        replace s := Sat.front 7 rfl s
        replace s := Sat.front 7 rfl s
        replace s := Sat.front 7 rfl s
        replace s := Sat.front 4 rfl s
        replace s := Sat.front 7 rfl s
        replace s := Sat.front 7 rfl s
        replace s := Sat.erase 7 s
        exact s

set_option maxRecDepth 100000 in
theorem C59 {B : World} {L : List HP} {a0 : Int × (List Int) × ((Int × Int) → Option (List Int)) × (List Bool) × ((Int × Int) → Option Bool) × (List Int) × List (List Int)} {a1 : Int × Int × Int × Int} {b0_ : Nat} {u0_5 : Value} {u0_6 : Value} {h0_1 : Value} {h0_2 : Nat} {h0_3 : (Int × Int) → Value} {h0_4 : Value} {h0_5 : Nat} {h0_6 : Value} {h0_7 : Value} {h0_8 : List Value} {r0 : Int} {s0 : Int × (List Int) × ((Int × Int) → Option (List Int)) × (List Bool) × ((Int × Int) → Option Bool) × (List Int) × List (List Int)} (hm : F59 a0 a1 = some (r0, s0)) {w : World} (st : St B (Bx b0_ 134 [I a0.1, h0_1, .map (some h0_2), h0_4, .map (some h0_5), u0_5, u0_6, h0_6, h0_7] :: OwnS 3 1 h0_1 (a0.2.1.map cI) :: MS (fun k : Int × Int => .agg #[I k.1, I k.2]) 3 1 cI h0_2 h0_3 (a0.2.2.1) :: OwnS 4 1 h0_4 (a0.2.2.2.1.map cB) :: MF (fun k : Int × Int => .agg #[I k.1, I k.2]) (fun x : Bool => .bool x) h0_5 (a0.2.2.2.2.1) :: OwnS 3 1 h0_6 (a0.2.2.2.2.2.1.map cI) :: SS 22 3 1 cI h0_7 h0_8 (a0.2.2.2.2.2.2) :: L) w) : Calls Try.prog 59 #[.pointer (some ⟨b0_, 0, none⟩), .agg (cTiiii a1).toArray] w (fun e w' => ∃ v M, e = .returned v ∧ (∃ (qr1 : Nat) (qhd2 : (Int × Int) → Value) (qr3 : Nat) (qhs4 : List Value), v = I r0 ∧ M = (Bx b0_ 134 [I s0.1, h0_1, .map (some qr1), h0_4, .map (some qr3), u0_5, u0_6, h0_6, h0_7] :: OwnS 3 1 h0_1 (s0.2.1.map cI) :: MS (fun k : Int × Int => .agg #[I k.1, I k.2]) 3 1 cI qr1 qhd2 (s0.2.2.1) :: OwnS 4 1 h0_4 (s0.2.2.2.1.map cB) :: MF (fun k : Int × Int => .agg #[I k.1, I k.2]) (fun x : Bool => .bool x) qr3 (s0.2.2.2.2.1) :: OwnS 3 1 h0_6 (s0.2.2.2.2.2.1.map cI) :: SS 22 3 1 cI h0_7 qhs4 (s0.2.2.2.2.2.2) :: L)) ∧ St B M w') := by
  refine calls_of (N := 118) (L := (Bx b0_ 134 [I a0.1, h0_1, .map (some h0_2), h0_4, .map (some h0_5), u0_5, u0_6, h0_6, h0_7] :: OwnS 3 1 h0_1 (a0.2.1.map cI) :: MS (fun k : Int × Int => .agg #[I k.1, I k.2]) 3 1 cI h0_2 h0_3 (a0.2.2.1) :: OwnS 4 1 h0_4 (a0.2.2.2.1.map cB) :: MF (fun k : Int × Int => .agg #[I k.1, I k.2]) (fun x : Bool => .bool x) h0_5 (a0.2.2.2.2.1) :: OwnS 3 1 h0_6 (a0.2.2.2.2.2.1.map cI) :: SS 22 3 1 cI h0_7 h0_8 (a0.2.2.2.2.2.2) :: L)) (args := [.pointer (some ⟨b0_, 0, none⟩), .agg (cTiiii a1).toArray]) Try.func59 rfl rfl rfl ?_ st
  dsimp only [F59] at hm
  refine TC.k ?_
  refine TC.region ?_
  refine TO.box (cs := [.pointer (some ⟨b0_, 0, none⟩)]) rfl rfl rfl fun b13 => ?_
  refine TO.box (cs := [I a1.1, I a1.2.1, I a1.2.2.1, I a1.2.2.2]) rfl rfl rfl fun b14 => ?_
  refine TO.s rfl rfl rfl (StepS.assign rfl) ?_
  refine TO.code ?_
  refine TC.k ?_
  refine TC.region ?_
  refine TO.s rfl rfl rfl (StepS.mkfn rfl) ?_
  refine TO.s rfl rfl rfl (StepS.assign rfl) ?_
  refine TO.code ?_
  refine TC.k ?_
  refine TC.block ?_
  refine TC.k ?_
  refine TC.region ?_
  refine TO.s rfl rfl rfl (StepS.fld rfl kfieldB_106_0_0_true) ?_
  refine TO.s rfl rfl rfl (StepS.ldB rfl (Ent.at 0 rfl) kscalB_3_true rfl) ?_
  refine TO.s rfl rfl rfl (StepS.cmp rfl rfl rfl) ?_
  refine TO.s rfl rfl rfl (StepS.move rfl) ?_
  refine TO.mid1 4 16 (.bool ((decide (a1.1 < 1)) || (decide (a1.1 > 3)))) ?_ ?_
  · refine bcase ((decide (a1.1 < 1))) (fun hb15 => ?_) (fun hb15 => ?_)
    · refine TO.skip rfl rfl rfl (skipT hb15) rfl rfl ?_
      refine TO.skip rfl rfl rfl (skipT hb15) rfl rfl ?_
      refine TO.skip rfl rfl rfl (skipT hb15) rfl rfl ?_
      refine TO.s rfl rfl rfl (StepS.pickT rfl hb15 rfl) ?_
      exact TO.up1 4 0 rfl rfl (by rw [hb15]; rfl) rfl
    · refine TO.sw rfl rfl rfl hb15 rfl rfl (StepS.fld rfl kfieldB_106_0_0_true) ?_
      refine TO.sw rfl rfl rfl hb15 rfl rfl (StepS.ldB rfl (Ent.at 0 rfl) kscalB_3_true rfl) ?_
      refine TO.sw rfl rfl rfl hb15 rfl rfl (StepS.cmp rfl rfl rfl) ?_
      refine TO.s rfl rfl rfl (StepS.pickF rfl hb15 rfl) ?_
      exact TO.up1 4 0 rfl rfl (by rw [hb15]; rfl) rfl
  refine TO.s rfl rfl rfl (StepS.assign rfl) ?_
  refine TO.code ?_
  refine TC.cond rfl (fun hc16 => ?_) (fun hc16 => ?_)
  · replace hm := cond_t hc16 hm
    refine TC.k ?_
    refine TC.region ?_
    refine TO.s rfl rfl rfl (StepS.assign rfl) ?_
    refine TO.code ?_
    cases hm
    refine TC.ret fun a w e s => ?_
    refine FRet.mk1 (P := Try.prog) (fn := Try.f59) (t := 4) e rfl rfl ?_
    refine ⟨_, _, rfl, ⟨h0_2, h0_3, h0_5, (h0_8), rfl, rfl⟩, ?_⟩
    refine s.mono fun _ s => ?_
    replace s := Sat.front 8 rfl s
    replace s := Sat.front 8 rfl s
    replace s := Sat.front 8 rfl s
    replace s := Sat.front 8 rfl s
    replace s := Sat.front 8 rfl s
    replace s := Sat.front 8 rfl s
    replace s := Sat.front 8 rfl s
    replace s := Sat.erase 7 s
    replace s := Sat.erase 7 s
    exact s
  · replace hm := cond_f hc16 hm
    refine TC.k ?_
    refine TC.region ?_
    refine TO.s rfl rfl rfl (StepS.move rfl) ?_
    refine TO.s rfl rfl rfl (StepS.fld rfl kfieldB_106_1_1_true) ?_
    refine TO.s rfl rfl rfl (StepS.ldB rfl (Ent.at 0 rfl) kscalB_3_true rfl) ?_
    obtain ⟨r17, hc18, hm⟩ := bind_some hm
    refine TO.q rfl rfl rfl (StepQ.callC kcallB_92_true rfl rfl rfl (fun _ st => C92 (Ent.at 1 rfl) (Ent.at 2 rfl) hc18 st)) ?_
    refine TO.s rfl rfl rfl (StepS.move rfl) ?_
    obtain ⟨b20, hj21, hm⟩ := bind_some hm
    refine TO.mid1 17 39 (.bool b20) ?_ ?_
    · refine bcase (r17) (fun hb19 => ?_) (fun hb19 => ?_)
      · replace hj21 := cond_t hb19 hj21
        cases hj21
        refine TO.skip rfl rfl rfl (skipT hb19) rfl rfl ?_
        refine TO.skip rfl rfl rfl (skipT hb19) rfl rfl ?_
        refine TO.skip rfl rfl rfl (skipT hb19) rfl rfl ?_
        refine TO.skip rfl rfl rfl (skipT hb19) rfl rfl ?_
        refine TO.skip rfl rfl rfl skipU rfl rfl ?_
        refine TO.skip rfl rfl rfl skipU rfl rfl ?_
        refine TO.skip rfl rfl rfl skipU rfl rfl ?_
        refine TO.skip rfl rfl rfl skipU rfl rfl ?_
        refine TO.skip rfl rfl rfl skipU rfl rfl ?_
        refine TO.skip rfl rfl rfl skipU rfl rfl ?_
        refine TO.skip rfl rfl rfl skipU rfl rfl ?_
        refine TO.skip rfl rfl rfl skipU rfl rfl ?_
        refine TO.skip rfl rfl rfl skipU rfl rfl ?_
        refine TO.skip rfl rfl rfl skipU rfl rfl ?_
        refine TO.skip rfl rfl rfl skipU rfl rfl ?_
        refine TO.skip rfl rfl rfl (skipT hb19) rfl rfl ?_
        refine TO.s rfl rfl rfl (StepS.pickT rfl hb19 rfl) ?_
        exact TO.up1 17 0 rfl rfl rfl rfl
      · replace hj21 := cond_f hb19 hj21
        refine TO.sw rfl rfl rfl hb19 rfl rfl (StepS.fld rfl kfieldB_106_0_0_true) ?_
        refine TO.sw rfl rfl rfl hb19 rfl rfl (StepS.ldB rfl (Ent.at 0 rfl) kscalB_3_true rfl) ?_
        refine TO.sw rfl rfl rfl hb19 rfl rfl (StepS.cmp rfl rfl rfl) ?_
        refine TO.sw rfl rfl rfl hb19 rfl rfl (StepS.move rfl) ?_
        obtain ⟨b23, hj24, hj21⟩ := bind_some hj21
        refine TO.mid1 12 38 (.bool b23) ?_ ?_
        · refine bcase ((a1.1 != 3)) (fun hb22 => ?_) (fun hb22 => ?_)
          · replace hj24 := cond_t hb22 hj24
            refine TO.sw rfl rfl rfl hb22 rfl rfl (StepS.move rfl) ?_
            refine TO.sw rfl rfl rfl hb22 rfl rfl (StepS.fld rfl kfieldB_106_2_2_true) ?_
            refine TO.sw rfl rfl rfl hb22 rfl rfl (StepS.ldB rfl (Ent.at 0 rfl) kscalB_3_true rfl) ?_
            obtain ⟨r25, hc26, hj24⟩ := bind_some hj24
            refine TO.qw rfl rfl rfl hb22 rfl rfl (StepQ.callC kcallB_92_true rfl rfl rfl (fun _ st => C92 (Ent.at 1 rfl) (Ent.at 2 rfl) hc26 st)) ?_
            refine TO.sw rfl rfl rfl hb22 rfl rfl (StepS.move rfl) ?_
            refine TO.mid1 6 37 (.bool (r25 || (a1.2.1 == a1.2.2.1))) ?_ ?_
            · refine bcase (r25) (fun hb27 => ?_) (fun hb27 => ?_)
              · refine TO.skip rfl rfl rfl (skipT hb27) rfl rfl ?_
                refine TO.skip rfl rfl rfl (skipT hb27) rfl rfl ?_
                refine TO.skip rfl rfl rfl (skipT hb27) rfl rfl ?_
                refine TO.skip rfl rfl rfl (skipT hb27) rfl rfl ?_
                refine TO.skip rfl rfl rfl (skipT hb27) rfl rfl ?_
                refine TO.sw rfl rfl rfl hb22 rfl rfl (StepS.pickT rfl hb27 rfl) ?_
                exact TO.up1 6 0 rfl rfl (by rw [hb27]; rfl) rfl
              · refine TO.sw rfl rfl rfl hb27 rfl rfl (StepS.fld rfl kfieldB_106_1_1_true) ?_
                refine TO.sw rfl rfl rfl hb27 rfl rfl (StepS.ldB rfl (Ent.at 0 rfl) kscalB_3_true rfl) ?_
                refine TO.sw rfl rfl rfl hb27 rfl rfl (StepS.fld rfl kfieldB_106_2_2_true) ?_
                refine TO.sw rfl rfl rfl hb27 rfl rfl (StepS.ldB rfl (Ent.at 0 rfl) kscalB_3_true rfl) ?_
                refine TO.sw rfl rfl rfl hb27 rfl rfl (StepS.cmp rfl rfl rfl) ?_
                refine TO.sw rfl rfl rfl hb22 rfl rfl (StepS.pickF rfl hb27 rfl) ?_
                exact TO.up1 6 0 rfl rfl (by rw [hb27]; rfl) rfl
            cases hj24
            refine TO.sw rfl rfl rfl hb19 rfl rfl (StepS.pickT rfl hb22 rfl) ?_
            exact TO.up1 7 0 rfl rfl rfl rfl
          · replace hj24 := cond_f hb22 hj24
            cases hj24
            refine TO.skip rfl rfl rfl (skipF hb22) rfl rfl ?_
            refine TO.skip rfl rfl rfl (skipF hb22) rfl rfl ?_
            refine TO.skip rfl rfl rfl (skipF hb22) rfl rfl ?_
            refine TO.skip rfl rfl rfl (skipF hb22) rfl rfl ?_
            refine TO.skip rfl rfl rfl (skipF hb22) rfl rfl ?_
            refine TO.skip rfl rfl rfl skipU rfl rfl ?_
            refine TO.skip rfl rfl rfl skipU rfl rfl ?_
            refine TO.skip rfl rfl rfl skipU rfl rfl ?_
            refine TO.skip rfl rfl rfl skipU rfl rfl ?_
            refine TO.skip rfl rfl rfl skipU rfl rfl ?_
            refine TO.skip rfl rfl rfl (skipF hb22) rfl rfl ?_
            refine TO.sw rfl rfl rfl hb19 rfl rfl (StepS.pickF rfl hb22 rfl) ?_
            exact TO.up1 12 0 rfl rfl rfl rfl
        cases hj21
        refine TO.s rfl rfl rfl (StepS.pickF rfl hb19 rfl) ?_
        exact TO.up1 6 0 rfl rfl rfl rfl
    refine TO.s rfl rfl rfl (StepS.assign rfl) ?_
    refine TO.code ?_
    refine TC.cond rfl (fun hc28 => ?_) (fun hc28 => ?_)
    · replace hm := cond_t hc28 hm
      refine TC.k ?_
      refine TC.region ?_
      refine TO.s rfl rfl rfl (StepS.assign rfl) ?_
      refine TO.code ?_
      cases hm
      refine TC.ret fun a w e s => ?_
      refine FRet.mk1 (P := Try.prog) (fn := Try.f59) (t := 4) e rfl rfl ?_
      refine ⟨_, _, rfl, ⟨h0_2, h0_3, h0_5, (h0_8), rfl, rfl⟩, ?_⟩
      refine s.mono fun _ s => ?_
      replace s := Sat.front 8 rfl s
      replace s := Sat.front 8 rfl s
      replace s := Sat.front 8 rfl s
      replace s := Sat.front 8 rfl s
      replace s := Sat.front 8 rfl s
      replace s := Sat.front 8 rfl s
      replace s := Sat.front 8 rfl s
      replace s := Sat.erase 7 s
      replace s := Sat.erase 7 s
      exact s
    · replace hm := cond_f hc28 hm
      refine TC.k ?_
      refine TC.region ?_
      refine TO.s rfl rfl rfl (StepS.fld rfl kfieldB_106_0_0_true) ?_
      refine TO.s rfl rfl rfl (StepS.ldB rfl (Ent.at 0 rfl) kscalB_3_true rfl) ?_
      refine TO.s rfl rfl rfl (StepS.cmp rfl rfl rfl) ?_
      refine TO.s rfl rfl rfl (StepS.assign rfl) ?_
      refine TO.code ?_
      refine TC.cond rfl (fun hc29 => ?_) (fun hc29 => ?_)
      · replace hm := cond_t hc29 hm
        refine TC.k ?_
        refine TC.region ?_
        refine TO.s rfl rfl rfl (StepS.ldB rfl (Ent.at 1 rfl) kscalB_130_true rfl) ?_
        refine TO.s rfl rfl rfl (StepS.fld rfl kfieldB_106_1_1_true) ?_
        refine TO.s rfl rfl rfl (StepS.ldB rfl (Ent.at 0 rfl) kscalB_3_true rfl) ?_
        refine TO.s rfl rfl rfl (StepS.fld rfl kfieldB_106_2_2_true) ?_
        refine TO.s rfl rfl rfl (StepS.ldB rfl (Ent.at 0 rfl) kscalB_3_true rfl) ?_
        refine TO.ghost (fun _ s => Sat.front 8 rfl s) ?_
        refine TO.ghost (fun _ s => Sat.front 8 rfl s) ?_
        refine TO.ghost (fun _ s => Sat.front 8 rfl s) ?_
        refine TO.ghost (fun _ s => Sat.front 8 rfl s) ?_
        refine TO.ghost (fun _ s => Sat.front 8 rfl s) ?_
        refine TO.ghost (fun _ s => Sat.front 8 rfl s) ?_
        refine TO.ghost (fun _ s => Sat.front 8 rfl s) ?_
        obtain ⟨⟨r30, r31⟩, hc32, hm⟩ := bind_some hm
        refine TO.callO kcallB_93_true rfl rfl rfl (fun _ st => C93 (a0 := (a0.1, a0.2.1, a0.2.2.1, a0.2.2.2.1, a0.2.2.2.2.1, (a0.2.2.2.2.2.1, a0.2.2.2.2.2.2)))  hc32 st) ?_
        rintro _ _ ⟨r34, hd35, r38, hs41, rfl, rfl⟩
        refine TO.s rfl rfl rfl (StepS.assign rfl) ?_
        refine TO.code ?_
        cases hm
        refine TC.ret fun a w e s => ?_
        refine FRet.mk1 (P := Try.prog) (fn := Try.f59) (t := 4) e rfl rfl ?_
        refine ⟨_, _, rfl, ⟨r34, hd35, r38, (hs41), rfl, rfl⟩, ?_⟩
        refine s.mono fun _ s => ?_
        replace s := Sat.front 6 rfl s
        replace s := Sat.front 6 rfl s
        replace s := Sat.front 6 rfl s
        replace s := Sat.front 6 rfl s
        replace s := Sat.front 6 rfl s
        replace s := Sat.front 6 rfl s
        replace s := Sat.front 6 rfl s
        replace s := Sat.erase 7 s
        replace s := Sat.erase 7 s
        exact s
      · replace hm := cond_f hc29 hm
        refine TC.k ?_
        refine TC.region_still kfollows_mixedOrders_true (by kernel_rfl) ?_
        refine TS.s rfl rfl rfl (StepS.fld rfl kfieldB_106_0_0_true) ?_
        refine TS.s rfl rfl rfl (StepS.ldB rfl (Ent.at 0 rfl) kscalB_3_true rfl) ?_
        refine TS.s rfl rfl rfl (StepS.cmp rfl rfl rfl) ?_
        refine TS.s rfl rfl rfl (StepS.move rfl) ?_
        obtain ⟨b44, hj45, hm⟩ := bind_some hm
        refine TS.mid1 9 63 (.bool b44) ?_ ?_
        · refine bcase ((a1.1 == 3)) (fun hb43 => ?_) (fun hb43 => ?_)
          · replace hj45 := cond_t hb43 hj45
            refine TS.sw rfl rfl rfl hb43 rfl rfl (StepS.ldB rfl (Ent.at 1 rfl) kscalB_130_true rfl) ?_
            refine TS.sw rfl rfl rfl hb43 rfl rfl (StepS.nilc rfl) ?_
            refine TS.sw rfl rfl rfl hb43 rfl rfl (StepS.fld rfl kfieldB_134_3_3_true) ?_
            refine TS.sw rfl rfl rfl hb43 rfl rfl (StepS.ldB rfl (Ent.at 2 rfl) kscalB_115_true rfl) ?_
            refine TS.sw rfl rfl rfl hb43 rfl rfl (StepS.fld rfl kfieldB_106_1_1_true) ?_
            refine TS.sw rfl rfl rfl hb43 rfl rfl (StepS.ldB rfl (Ent.at 0 rfl) kscalB_3_true rfl) ?_
            obtain ⟨x46, hx47, hj45⟩ := bind_some hj45
            refine TS.sw rfl rfl rfl hb43 rfl rfl (StepS.idx rfl rfl (OwnS.rd (Ent.at 5 rfl)) ksliceB_115_4_1_true (idx_spec hx47).1 (idxm_lt hx47)) ?_
            refine TS.sw rfl rfl rfl hb43 rfl rfl (StepS.ld0 rfl (OwnS.rd (Ent.at 5 rfl)) kscalB_4_true rfl (idxm hx47) rfl) ?_
            cases hj45
            refine TS.s rfl rfl rfl (StepS.pickT rfl hb43 rfl) ?_
            exact TS.up1 9 0 rfl rfl rfl rfl
          · replace hj45 := cond_f hb43 hj45
            cases hj45
            refine TS.skip rfl rfl rfl (skipF hb43) rfl rfl ?_
            refine TS.skip rfl rfl rfl (skipF hb43) rfl rfl ?_
            refine TS.skip rfl rfl rfl (skipF hb43) rfl rfl ?_
            refine TS.skip rfl rfl rfl (skipF hb43) rfl rfl ?_
            refine TS.skip rfl rfl rfl (skipF hb43) rfl rfl ?_
            refine TS.skip rfl rfl rfl (skipF hb43) rfl rfl ?_
            refine TS.skip rfl rfl rfl (skipF hb43) rfl rfl ?_
            refine TS.skip rfl rfl rfl (skipF hb43) rfl rfl ?_
            refine TS.s rfl rfl rfl (StepS.pickF rfl hb43 rfl) ?_
            exact TS.up1 9 0 rfl rfl rfl rfl
        refine TS.s rfl rfl rfl (StepS.assign rfl) ?_
        refine TS.code ?_
        refine TC.cond rfl (fun hc48 => ?_) (fun hc48 => ?_)
        · replace hm := cond_t hc48 hm
          refine TC.k ?_
          refine TC.region ?_
          refine TO.s rfl rfl rfl (StepS.assign rfl) ?_
          refine TO.code ?_
          cases hm
          refine TC.ret fun a w e s => ?_
          refine FRet.mk1 (P := Try.prog) (fn := Try.f59) (t := 4) e rfl rfl ?_
          refine ⟨_, _, rfl, ⟨h0_2, h0_3, h0_5, (h0_8), rfl, rfl⟩, ?_⟩
          refine s.mono fun _ s => ?_
          replace s := Sat.front 8 rfl s
          replace s := Sat.front 8 rfl s
          replace s := Sat.front 8 rfl s
          replace s := Sat.front 8 rfl s
          replace s := Sat.front 8 rfl s
          replace s := Sat.front 8 rfl s
          replace s := Sat.front 8 rfl s
          replace s := Sat.erase 7 s
          replace s := Sat.erase 7 s
          exact s
        · replace hm := cond_f hc48 hm
          refine TC.k ?_
          refine TC.region ?_
          refine TO.s rfl rfl rfl (StepS.fld rfl kfieldB_106_0_0_true) ?_
          refine TO.s rfl rfl rfl (StepS.ldB rfl (Ent.at 0 rfl) kscalB_3_true rfl) ?_
          refine TO.s rfl rfl rfl (StepS.cmp rfl rfl rfl) ?_
          refine TO.s rfl rfl rfl (StepS.assign rfl) ?_
          refine TO.code ?_
          refine TC.cond rfl (fun hc49 => ?_) (fun hc49 => ?_)
          · replace hm := cond_t hc49 hm
            refine TC.k ?_
            refine TC.region ?_
            refine TO.s rfl rfl rfl (StepS.ldB rfl (Ent.at 1 rfl) kscalB_130_true rfl) ?_
            refine TO.s rfl rfl rfl (StepS.fld rfl kfieldB_106_1_1_true) ?_
            refine TO.s rfl rfl rfl (StepS.ldB rfl (Ent.at 0 rfl) kscalB_3_true rfl) ?_
            refine TO.ghost (fun _ s => Sat.front 7 rfl s) ?_
            refine TO.ghost (fun _ s => Sat.front 6 rfl s) ?_
            refine TO.ghost (fun _ s => Sat.front 6 rfl s) ?_
            refine TO.ghost (fun _ s => Sat.front 6 rfl s) ?_
            refine TO.ghost (fun _ s => Sat.front 6 rfl s) ?_
            obtain ⟨r50, hc51, hm⟩ := bind_some hm
            refine TO.callO kcallB_94_true rfl rfl rfl (fun _ st => C94 (a0 := (a0.1, a0.2.1, a0.2.2.1, a0.2.2.2.1, a0.2.2.2.2.2.1))  hc51 st) ?_
            rintro _ _ ⟨r53, hd54, rfl, rfl⟩
            refine TO.code ?_
            refine TC.k ?_
            refine TC.region ?_
            refine TO.s rfl rfl rfl (StepS.assign rfl) ?_
            refine TO.code ?_
            cases hm
            refine TC.ret fun a w e s => ?_
            refine FRet.mk1 (P := Try.prog) (fn := Try.f59) (t := 4) e rfl rfl ?_
            refine ⟨_, _, rfl, ⟨r53, hd54, h0_5, (h0_8), rfl, rfl⟩, ?_⟩
            refine s.mono fun _ s => ?_
            replace s := Sat.front 8 rfl s
            replace s := Sat.front 5 rfl s
            replace s := Sat.front 8 rfl s
            replace s := Sat.front 6 rfl s
            replace s := Sat.front 6 rfl s
            replace s := Sat.front 6 rfl s
            replace s := Sat.front 6 rfl s
            replace s := Sat.erase 7 s
            replace s := Sat.erase 7 s
            exact s
          · replace hm := cond_f hc49 hm
            refine TC.k ?_
            refine TC.region_still kfollows_mixedOrders_true (by kernel_rfl) ?_
            refine TS.s rfl rfl rfl (StepS.fld rfl kfieldB_106_3_3_true) ?_
            refine TS.s rfl rfl rfl (StepS.ldB rfl (Ent.at 0 rfl) kscalB_3_true rfl) ?_
            refine TS.s rfl rfl rfl (StepS.cmp rfl rfl rfl) ?_
            refine TS.s rfl rfl rfl (StepS.move rfl) ?_
            obtain ⟨b59, hj60, hm⟩ := bind_some hm
            refine TS.mid1 12 88 (.bool b59) ?_ ?_
            · refine bcase ((decide (a1.2.2.2 < 1))) (fun hb58 => ?_) (fun hb58 => ?_)
              · replace hj60 := cond_t hb58 hj60
                cases hj60
                refine TS.skip rfl rfl rfl (skipT hb58) rfl rfl ?_
                refine TS.skip rfl rfl rfl (skipT hb58) rfl rfl ?_
                refine TS.skip rfl rfl rfl (skipT hb58) rfl rfl ?_
                refine TS.skip rfl rfl rfl (skipT hb58) rfl rfl ?_
                refine TS.skip rfl rfl rfl (skipT hb58) rfl rfl ?_
                refine TS.skip rfl rfl rfl (skipT hb58) rfl rfl ?_
                refine TS.skip rfl rfl rfl (skipT hb58) rfl rfl ?_
                refine TS.skip rfl rfl rfl (skipT hb58) rfl rfl ?_
                refine TS.skip rfl rfl rfl (skipT hb58) rfl rfl ?_
                refine TS.skip rfl rfl rfl (skipT hb58) rfl rfl ?_
                refine TS.skip rfl rfl rfl (skipT hb58) rfl rfl ?_
                refine TS.s rfl rfl rfl (StepS.pickT rfl hb58 rfl) ?_
                exact TS.up1 12 0 rfl rfl rfl rfl
              · replace hj60 := cond_f hb58 hj60
                refine TS.sw rfl rfl rfl hb58 rfl rfl (StepS.fld rfl kfieldB_106_3_3_true) ?_
                refine TS.sw rfl rfl rfl hb58 rfl rfl (StepS.ldB rfl (Ent.at 0 rfl) kscalB_3_true rfl) ?_
                refine TS.sw rfl rfl rfl hb58 rfl rfl (StepS.ldB rfl (Ent.at 1 rfl) kscalB_130_true rfl) ?_
                refine TS.sw rfl rfl rfl hb58 rfl rfl (StepS.nilc rfl) ?_
                refine TS.sw rfl rfl rfl hb58 rfl rfl (StepS.fld rfl kfieldB_134_1_1_true) ?_
                refine TS.sw rfl rfl rfl hb58 rfl rfl (StepS.ldB rfl (Ent.at 2 rfl) kscalB_22_true rfl) ?_
                refine TS.sw rfl rfl rfl hb58 rfl rfl (StepS.fld rfl kfieldB_106_1_1_true) ?_
                refine TS.sw rfl rfl rfl hb58 rfl rfl (StepS.ldB rfl (Ent.at 0 rfl) kscalB_3_true rfl) ?_
                obtain ⟨x61, hx62, hj60⟩ := bind_some hj60
                refine TS.sw rfl rfl rfl hb58 rfl rfl (StepS.idx rfl rfl (OwnS.rd (Ent.at 3 rfl)) ksliceB_22_3_1_true (idx_spec hx62).1 (idxm_lt hx62)) ?_
                refine TS.sw rfl rfl rfl hb58 rfl rfl (StepS.ld0 rfl (OwnS.rd (Ent.at 3 rfl)) kscalB_3_true rfl (idxm hx62) rfl) ?_
                refine TS.sw rfl rfl rfl hb58 rfl rfl (StepS.cmp rfl rfl rfl) ?_
                cases hj60
                refine TS.s rfl rfl rfl (StepS.pickF rfl hb58 rfl) ?_
                exact TS.up1 12 0 rfl rfl rfl rfl
            refine TS.s rfl rfl rfl (StepS.assign rfl) ?_
            refine TS.code ?_
            refine TC.cond rfl (fun hc63 => ?_) (fun hc63 => ?_)
            · replace hm := cond_t hc63 hm
              refine TC.k ?_
              refine TC.region ?_
              refine TO.s rfl rfl rfl (StepS.assign rfl) ?_
              refine TO.code ?_
              cases hm
              refine TC.ret fun a w e s => ?_
              refine FRet.mk1 (P := Try.prog) (fn := Try.f59) (t := 4) e rfl rfl ?_
              refine ⟨_, _, rfl, ⟨h0_2, h0_3, h0_5, (h0_8), rfl, rfl⟩, ?_⟩
              refine s.mono fun _ s => ?_
              replace s := Sat.front 8 rfl s
              replace s := Sat.front 8 rfl s
              replace s := Sat.front 8 rfl s
              replace s := Sat.front 8 rfl s
              replace s := Sat.front 8 rfl s
              replace s := Sat.front 8 rfl s
              replace s := Sat.front 8 rfl s
              replace s := Sat.erase 7 s
              replace s := Sat.erase 7 s
              exact s
            · replace hm := cond_f hc63 hm
              refine TC.skipk ?_
              refine TC.k ?_
              refine TC.region ?_
              refine TO.s rfl rfl rfl (StepS.fld rfl kfieldB_106_1_1_true) ?_
              refine TO.s rfl rfl rfl (StepS.ldB rfl (Ent.at 0 rfl) kscalB_3_true rfl) ?_
              refine TO.s rfl rfl rfl (StepS.fld rfl kfieldB_106_2_2_true) ?_
              refine TO.s rfl rfl rfl (StepS.ldB rfl (Ent.at 0 rfl) kscalB_3_true rfl) ?_
              refine TO.s rfl rfl rfl (StepS.build (cs := [I a1.2.1, I a1.2.2.1]) rfl (by kernel_rfl)) ?_
              refine TO.alloc kinfo_114_bind_zero_some_agg_I_0_I_0 rfl rfl fun b64 => ?_
              refine TO.stB (us := [I a1.2.1, I a1.2.2.1]) 0 [I a1.2.1, I a1.2.2.1] rfl rfl rfl ksizeB_114_2_true rfl rfl rfl (by simp [Value.oneCell']) rfl ?_
              refine TO.code ?_
              refine TC.k ?_
              refine TC.region_tail 12 kfollows_mixedOrders_true (by kernel_rfl) ?_
              refine TS.s rfl rfl rfl (StepS.ldB rfl (Ent.at 2 rfl) kscalB_130_true rfl) ?_
              refine TS.s rfl rfl rfl (StepS.nilc rfl) ?_
              refine TS.s rfl rfl rfl (StepS.fld rfl kfieldB_134_1_1_true) ?_
              refine TS.s rfl rfl rfl (StepS.ldB rfl (Ent.at 3 rfl) kscalB_22_true rfl) ?_
              refine TS.s rfl rfl rfl (StepS.fld rfl kfieldB_106_1_1_true) ?_
              refine TS.s rfl rfl rfl (StepS.ldB rfl (Ent.at 1 rfl) kscalB_3_true rfl) ?_
              obtain ⟨x65, hx66, hm⟩ := bind_some hm
              refine TS.s rfl rfl rfl (StepS.idx rfl rfl (OwnS.rd (Ent.at 4 rfl)) ksliceB_22_3_1_true (idx_spec hx66).1 (idxm_lt hx66)) ?_
              refine TS.s rfl rfl rfl (StepS.ld0 rfl (OwnS.rd (Ent.at 4 rfl)) kscalB_3_true rfl (idxm hx66) rfl) ?_
              refine TS.s rfl rfl rfl (StepS.fld rfl kfieldB_106_3_3_true) ?_
              refine TS.s rfl rfl rfl (StepS.ldB rfl (Ent.at 1 rfl) kscalB_3_true rfl) ?_
              refine TS.s rfl rfl rfl (StepS.ari rfl rfl rfl) ?_
              obtain ⟨x67, hx68, hm⟩ := bind_some hm
              refine TS.s rfl rfl rfl (StepS.idx rfl rfl (OwnS.rd (Ent.at 4 rfl)) ksliceB_22_3_1_true (idx_spec hx68).1 (idxm_lt hx68)) ?_
              refine TS.nil ?_
              refine TO.at ?_
              refine TO.stO (i := a1.2.1.toNat) (off := 0) (us := [I (w64 (x65 - a1.2.2.2))]) 4 (w64 (x65 - a1.2.2.2)) rfl rfl rfl ksizeB_3_1_true rfl rfl rfl (idx_spec hx68).2 rfl (by simp [Value.oneCell']) rfl ?_
              refine TO.code ?_
              refine TC.k ?_
              refine TC.region_any (Bx b64 114 [I a1.2.1, I a1.2.2.1] :: Bx b14 106 [I a1.1, I a1.2.1, I a1.2.2.1, I a1.2.2.2] :: Bx b13 130 [.pointer (some ⟨b0_, 0, none⟩)] :: Bx b0_ 134 [I a0.1, h0_1, .map (some h0_2), h0_4, .map (some h0_5), u0_5, u0_6, h0_6, h0_7] :: OwnS 3 1 h0_1 ((a0.2.1.set a1.2.1.toNat (w64 (x65 - a1.2.2.2))).map cI) :: MS (fun k : Int × Int => .agg #[I k.1, I k.2]) 3 1 cI h0_2 h0_3 (a0.2.2.1) :: OwnS 4 1 h0_4 (a0.2.2.2.1.map cB) :: MF (fun k : Int × Int => .agg #[I k.1, I k.2]) (fun x : Bool => .bool x) h0_5 (a0.2.2.2.2.1) :: OwnS 3 1 h0_6 (a0.2.2.2.2.2.1.map cI) :: SS 22 3 1 cI h0_7 h0_8 (a0.2.2.2.2.2.2) :: L) 8 13 kfollows_mixedOrders_true rfl ?_
              refine TA.take 0 rfl rfl rfl rfl (StepS.ldB rfl (Ent.at 2 rfl) kscalB_130_true rfl) (by kernel_rfl) (by kernel_rfl) (by kernel_rfl) (by kernel_rfl) (by kernel_rfl) (fun _ s => s) ?_
              refine TA.takeW 1 rfl rfl rfl rfl (StepS.nilc rfl) (by kernel_rfl) (by kernel_rfl) (by kernel_rfl) rfl (.inr (fun _ s => s)) ?_
              refine TA.takeW 2 rfl rfl rfl rfl (StepS.fld rfl kfieldB_134_2_2_true) (by kernel_rfl) (by kernel_rfl) (by kernel_rfl) rfl (.inr (fun _ s => s)) ?_
              refine TA.take 3 rfl rfl rfl rfl (StepS.ldB rfl (Ent.at 3 rfl) kscalB_131_true rfl) (by kernel_rfl) (by kernel_rfl) (by kernel_rfl) (by kernel_rfl) (by kernel_rfl) (fun _ s => s) ?_
              refine TA.take 4 rfl rfl rfl rfl (StepS.ldBA rfl (Ent.at 0 rfl) kaggB_114_2_true rfl rfl) (by kernel_rfl) (by kernel_rfl) (by kernel_rfl) (by kernel_rfl) (by kernel_rfl) (fun _ s => s) ?_
              refine TA.takeW 5 rfl rfl rfl rfl (StepS.fld rfl kfieldB_106_3_3_true) (by kernel_rfl) (by kernel_rfl) (by kernel_rfl) rfl (.inr (fun _ s => s)) ?_
              refine TA.take 6 rfl rfl rfl rfl (StepS.ldB rfl (Ent.at 1 rfl) kscalB_3_true rfl) (by kernel_rfl) (by kernel_rfl) (by kernel_rfl) (by kernel_rfl) (by kernel_rfl) (fun _ s => s) ?_
              refine TA.all1 (i := 7) (by kernel_rfl) ?_
              refine TB.of rfl ?_
              refine TO.litS (f := cI) ([a1.2.2.2] : List Int) kelemB_22_3_1_8_true kinfo_3_bind_zero_some_I_0 rfl rfl (fun _ => rfl) rfl rfl (by kernel_rfl) rfl fun vq69_7_1 => ?_
              refine TA.back (.inr (fun _ s => Sat.by [10, 10, 10, 10, 10, 10, 10, 10, 10, 10] 10 1 (by kernel_rfl) s)) ?_
              refine TA.asL (L' := (OwnS 3 1 vq69_7_1 (([a1.2.2.2] : List Int).map cI) :: Bx b64 114 [I a1.2.1, I a1.2.2.1] :: Bx b14 106 [I a1.1, I a1.2.1, I a1.2.2.1, I a1.2.2.2] :: Bx b13 130 [.pointer (some ⟨b0_, 0, none⟩)] :: Bx b0_ 134 [I a0.1, h0_1, .map (some h0_2), h0_4, .map (some h0_5), u0_5, u0_6, h0_6, h0_7] :: OwnS 3 1 h0_1 ((a0.2.1.set a1.2.1.toNat (w64 (x65 - a1.2.2.2))).map cI) :: MS (fun k : Int × Int => .agg #[I k.1, I k.2]) 3 1 cI h0_2 h0_3 (a0.2.2.1) :: OwnS 4 1 h0_4 (a0.2.2.2.1.map cB) :: MF (fun k : Int × Int => .agg #[I k.1, I k.2]) (fun x : Bool => .bool x) h0_5 (a0.2.2.2.2.1) :: OwnS 3 1 h0_6 (a0.2.2.2.2.2.1.map cI) :: SS 22 3 1 cI h0_7 h0_8 (a0.2.2.2.2.2.2) :: L)) (listed' := #[true, true, true, true, true, true, true, true, false, false, false, false, false]) (by kernel_rfl) (by kernel_rfl) ?_
              refine TA.all1 (i := 8) (by kernel_rfl) ?_
              refine TB.of rfl ?_
              refine TO.ghost (fun _ s => Sat.front 6 rfl s) ?_
              refine TO.mentS (k := (a1.2.1, a1.2.2.1)) kmapGB_131_114_22_true (KeyOk.pair kunderlying_114_some_array_2_3 kunderlying_3_some_int_i64 ksizeB_3_1_true kscalB_3_true) kinfo_22_bind_zero_some_slice_none_0_0 rfl rfl rfl fun sbq69_8_1 => ?_
              refine TA.back (.inl (by kernel_rfl)) ?_
              refine TA.asL (L' := (OwnS 3 1 (mhd h0_3 a0.2.2.1 (a1.2.1, a1.2.2.1)) (((a0.2.2.1 (a1.2.1, a1.2.2.1)).getD []).map cI) :: MSs (fun k : Int × Int => .agg #[I k.1, I k.2]) 3 1 cI h0_2 h0_3 (a0.2.2.1) (a1.2.1, a1.2.2.1) sbq69_8_1 :: OwnS 3 1 vq69_7_1 (([a1.2.2.2] : List Int).map cI) :: Bx b64 114 [I a1.2.1, I a1.2.2.1] :: Bx b14 106 [I a1.1, I a1.2.1, I a1.2.2.1, I a1.2.2.2] :: Bx b13 130 [.pointer (some ⟨b0_, 0, none⟩)] :: Bx b0_ 134 [I a0.1, h0_1, .map (some h0_2), h0_4, .map (some h0_5), u0_5, u0_6, h0_6, h0_7] :: OwnS 3 1 h0_1 ((a0.2.1.set a1.2.1.toNat (w64 (x65 - a1.2.2.2))).map cI) :: OwnS 4 1 h0_4 (a0.2.2.2.1.map cB) :: MF (fun k : Int × Int => .agg #[I k.1, I k.2]) (fun x : Bool => .bool x) h0_5 (a0.2.2.2.2.1) :: OwnS 3 1 h0_6 (a0.2.2.2.2.2.1.map cI) :: SS 22 3 1 cI h0_7 h0_8 (a0.2.2.2.2.2.2) :: L)) (listed' := #[true, true, true, true, true, true, true, true, true, false, false, false, false]) (by kernel_rfl) (by kernel_rfl) ?_
              refine TA.takeW 9 rfl rfl rfl rfl (StepS.extract rfl rfl) (by kernel_rfl) (by kernel_rfl) (by kernel_rfl) rfl (.inl (by kernel_rfl)) ?_
              refine TA.takeW 11 rfl rfl rfl rfl (StepS.extract rfl rfl) (by kernel_rfl) (by kernel_rfl) (by kernel_rfl) rfl (.inl (by kernel_rfl)) ?_
              refine TA.all1 (i := 10) (by kernel_rfl) ?_
              refine TB.of rfl ?_
              obtain ⟨yq69_10_1, hkq69_10_2, hm⟩ := bind_some hm
              refine TO.app (k := 0) (f := cI) kelemB_22_3_1_8_true (by decide) rfl rfl rfl (OwnS.rd (Ent.at 2 rfl)) hkq69_10_2 (fun x c hc => by simp [Value.oneCell'] at hc ⊢; first | (obtain rfl := hc; rfl) | (rcases hc with rfl <;> rfl)) rfl rfl fun vq69_10_3 => ?_
              refine TA.back (.inl (by kernel_rfl)) ?_
              refine TA.asL (L' := (OwnS 3 1 vq69_10_3 (yq69_10_1.map cI) :: MSs (fun k : Int × Int => .agg #[I k.1, I k.2]) 3 1 cI h0_2 h0_3 (a0.2.2.1) (a1.2.1, a1.2.2.1) sbq69_8_1 :: OwnS 3 1 vq69_7_1 (([a1.2.2.2] : List Int).map cI) :: Bx b64 114 [I a1.2.1, I a1.2.2.1] :: Bx b14 106 [I a1.1, I a1.2.1, I a1.2.2.1, I a1.2.2.2] :: Bx b13 130 [.pointer (some ⟨b0_, 0, none⟩)] :: Bx b0_ 134 [I a0.1, h0_1, .map (some h0_2), h0_4, .map (some h0_5), u0_5, u0_6, h0_6, h0_7] :: OwnS 3 1 h0_1 ((a0.2.1.set a1.2.1.toNat (w64 (x65 - a1.2.2.2))).map cI) :: OwnS 4 1 h0_4 (a0.2.2.2.1.map cB) :: MF (fun k : Int × Int => .agg #[I k.1, I k.2]) (fun x : Bool => .bool x) h0_5 (a0.2.2.2.2.1) :: OwnS 3 1 h0_6 (a0.2.2.2.2.2.1.map cI) :: SS 22 3 1 cI h0_7 h0_8 (a0.2.2.2.2.2.2) :: L)) (listed' := #[true, true, true, true, true, true, true, true, true, true, true, true, false]) (by kernel_rfl) (by kernel_rfl) ?_
              refine TA.all1 (i := 12) (by kernel_rfl) ?_
              refine TB.of rfl ?_
              refine TO.ghost (fun _ s => Sat.front 1 rfl s) ?_
              refine TO.mestS (k := (a1.2.1, a1.2.2.1)) (ys := yq69_10_1) rfl rfl rfl fun hsq69_12_1 => ?_
              refine TA.back (.inl (by kernel_rfl)) ?_
              refine TA.asL (L' := (MS (fun k : Int × Int => .agg #[I k.1, I k.2]) 3 1 cI h0_2 hsq69_12_1 (mupd a0.2.2.1 (a1.2.1, a1.2.2.1) yq69_10_1) :: OwnS 3 1 vq69_7_1 (([a1.2.2.2] : List Int).map cI) :: Bx b64 114 [I a1.2.1, I a1.2.2.1] :: Bx b14 106 [I a1.1, I a1.2.1, I a1.2.2.1, I a1.2.2.2] :: Bx b13 130 [.pointer (some ⟨b0_, 0, none⟩)] :: Bx b0_ 134 [I a0.1, h0_1, .map (some h0_2), h0_4, .map (some h0_5), u0_5, u0_6, h0_6, h0_7] :: OwnS 3 1 h0_1 ((a0.2.1.set a1.2.1.toNat (w64 (x65 - a1.2.2.2))).map cI) :: OwnS 4 1 h0_4 (a0.2.2.2.1.map cB) :: MF (fun k : Int × Int => .agg #[I k.1, I k.2]) (fun x : Bool => .bool x) h0_5 (a0.2.2.2.2.1) :: OwnS 3 1 h0_6 (a0.2.2.2.2.2.1.map cI) :: SS 22 3 1 cI h0_7 h0_8 (a0.2.2.2.2.2.2) :: L)) (listed' := #[true, true, true, true, true, true, true, true, true, true, true, true, true]) (by kernel_rfl) (by kernel_rfl) ?_
              refine TA.code (by kernel_rfl) ?_
              refine TC.k ?_
              refine TC.region ?_
              refine TO.s rfl rfl rfl (StepS.assign rfl) ?_
              refine TO.code ?_
              cases hm
              refine TC.ret fun a w e s => ?_
              refine FRet.mk1 (P := Try.prog) (fn := Try.f59) (t := 4) e rfl rfl ?_
              refine ⟨_, _, rfl, ⟨h0_2, hsq69_12_1, h0_5, (h0_8), rfl, rfl⟩, ?_⟩
              refine s.mono fun _ s => ?_
              replace s := Sat.front 10 rfl s
              replace s := Sat.front 10 rfl s
              replace s := Sat.front 10 rfl s
              replace s := Sat.front 10 rfl s
              replace s := Sat.front 4 rfl s
              replace s := Sat.front 10 rfl s
              replace s := Sat.front 10 rfl s
              replace s := Sat.erase 7 s
              replace s := Sat.erase 7 s
              replace s := Sat.erase 7 s
              replace s := Sat.erase 7 s
              exact s

set_option maxHeartbeats 4000000 in
set_option maxRecDepth 100000 in
theorem C26 {B : World} {L : List HP} {a0 : Int} {a1 : List (Int × Int × Int × Int)} {h1 : Value} {r0 : (List Int) × Bool × (List Int) × List (List Int)} {r1 : Int} (e1 : Ent L (Rd 4 h1 (a1.map cTiiii))) (hm : F26 a0 a1 = some (r0, r1)) {w : World} (st : St B L w) : Calls Try.prog 26 #[I a0, h1] w (fun e w' => ∃ v M, e = .returned v ∧ (∃ (qv1 : Value) (qv2 : Value) (qv3 : Value) (qhs4 : List Value), v = .tuple #[.agg #[qv1, .bool r0.2.1, qv2, qv3], I r1] ∧ M = (OwnS 28 1 qv1 (r0.1.map cI) :: OwnS 3 1 qv2 (r0.2.2.1.map cI) :: SS 22 3 1 cI qv3 qhs4 (r0.2.2.2) :: L)) ∧ St B M w') := by
  refine calls_of (N := 126) (L := L) (args := [I a0, h1]) Try.func26 rfl rfl rfl ?_ st
  dsimp only [F26] at hm
  refine TC.k ?_
  refine TC.region ?_
  refine TO.alloc kinfo_52_bind_zero_some_agg_slice_none_0_0_bool_false_slice_none_0_0_slice_none_0_0 rfl rfl fun b4 => ?_
  refine TO.s rfl rfl rfl (StepS.assign rfl) ?_
  refine TO.code ?_
  refine TC.k ?_
  refine TC.k ?_
  refine TC.region ?_
  refine TO.s rfl rfl rfl (StepS.move rfl) ?_
  refine TO.s rfl rfl rfl (StepS.cmp rfl rfl rfl) ?_
  refine TO.s rfl rfl rfl (StepS.move rfl) ?_
  refine TO.mid1 3 17 (.bool ((decide (a0 < 1)) || (decide (a0 > 6)))) ?_ ?_
  · refine bcase ((decide (a0 < 1))) (fun hb5 => ?_) (fun hb5 => ?_)
    · refine TO.skip rfl rfl rfl (skipT hb5) rfl rfl ?_
      refine TO.skip rfl rfl rfl (skipT hb5) rfl rfl ?_
      refine TO.s rfl rfl rfl (StepS.pickT rfl hb5 rfl) ?_
      exact TO.up1 3 0 rfl rfl (by rw [hb5]; rfl) rfl
    · refine TO.sw rfl rfl rfl hb5 rfl rfl (StepS.move rfl) ?_
      refine TO.sw rfl rfl rfl hb5 rfl rfl (StepS.cmp rfl rfl rfl) ?_
      refine TO.s rfl rfl rfl (StepS.pickF rfl hb5 rfl) ?_
      exact TO.up1 3 0 rfl rfl (by rw [hb5]; rfl) rfl
  refine TO.s rfl rfl rfl (StepS.move rfl) ?_
  refine TO.mid1 4 22 (.bool (((decide (a0 < 1)) || (decide (a0 > 6))) || (decide ((a1.length : Int) > 60)))) ?_ ?_
  · refine bcase (((decide (a0 < 1)) || (decide (a0 > 6)))) (fun hb6 => ?_) (fun hb6 => ?_)
    · refine TO.skip rfl rfl rfl (skipT hb6) rfl rfl ?_
      refine TO.skip rfl rfl rfl (skipT hb6) rfl rfl ?_
      refine TO.skip rfl rfl rfl (skipT hb6) rfl rfl ?_
      refine TO.s rfl rfl rfl (StepS.pickT rfl hb6 rfl) ?_
      exact TO.up1 4 0 rfl rfl (by rw [hb6]; rfl) rfl
    · refine TO.sw rfl rfl rfl hb6 rfl rfl (StepS.move rfl) ?_
      refine TO.sw rfl rfl rfl hb6 rfl rfl (StepS.lenm rfl e1.tl ksliceB_23_106_4_true rfl) ?_
      refine TO.sw rfl rfl rfl hb6 rfl rfl (StepS.cmp rfl rfl rfl) ?_
      refine TO.s rfl rfl rfl (StepS.pickF rfl hb6 rfl) ?_
      exact TO.up1 4 0 rfl rfl (by rw [hb6]; rfl) rfl
  refine TO.code ?_
  refine TC.cond rfl (fun hc7 => ?_) (fun hc7 => ?_)
  · replace hm := cond_t hc7 hm
    refine TC.k ?_
    refine TC.region ?_
    refine TO.s rfl rfl rfl (StepS.build (cs := [.slice none 0 0, .bool false, .slice none 0 0, .slice none 0 0]) rfl (by kernel_rfl)) ?_
    refine TO.stB (us := [.slice none 0 0, .bool false, .slice none 0 0, .slice none 0 0]) 0 [.slice none 0 0, .bool false, .slice none 0 0, .slice none 0 0] rfl rfl rfl ksizeB_52_4_true rfl rfl rfl (by simp [Value.oneCell']) rfl ?_
    refine TO.s rfl rfl rfl (StepS.assign rfl) ?_
    refine TO.code ?_
    cases hm
    refine TC.ret fun a w e s => ?_
    refine FRet.cell2 (P := Try.prog) (fn := Try.f26) e s rfl rfl rfl (Ent.at 0 rfl) kaggB_52_4_true rfl ?_
    refine ⟨_, _, rfl, ⟨(.slice none 0 0), (.slice none 0 0), (.slice none 0 0), ([]), rfl, rfl⟩, ?_⟩
    refine s.mono fun _ s => ?_
    replace s := Sat.nilSS (e := 22) (ee := 3) (sz := 1) (f := cI) s
    replace s := Sat.nilS (e := 3) (sz := 1) (f := cI) s
    replace s := Sat.nilS (e := 28) (sz := 1) (f := cI) s
    replace s := Sat.erase 3 s
    exact s
  · replace hm := cond_f hc7 hm
    refine TC.skipk ?_
    refine TC.k ?_
    obtain ⟨⟨y11, y14, y18, y21⟩, hj22, hm⟩ := bind_some hm
    first | refine TC.cutM (fun a w => ∃ v9 : Value, ∃ r13 : Nat, ∃ hs15 : (Int × Int) → Value, ∃ v16 : Value, ∃ r20 : Nat, ∃ bq8_8_1 : Nat, Mid 126 B [(0, I a0), (1, h1), (4, .pointer (some ⟨b4, 0, none⟩)), (6, .pointer (some ⟨bq8_8_1, 0, none⟩))] (OwnS 3 1 v9 (y11.map cI) :: MS (fun k : Int × Int => .agg #[I k.1, I k.2]) 3 1 cI r13 hs15 (y14) :: OwnS 4 1 v16 (y18.map cB) :: MF (fun k : Int × Int => .agg #[I k.1, I k.2]) (fun x : Bool => .bool x) r20 (y21) :: Bx bq8_8_1 134 [I a0, v9, .map (some r13), v16, .map (some r20), .slice none 0 0, .bool false, .slice none 0 0, .slice none 0 0] :: Bx b4 52 [.slice none 0 0, .bool false, .slice none 0 0, .slice none 0 0] :: L) a w) ?_ ?_ | refine TC.cutX (fun a w => ∃ v9 : Value, ∃ r13 : Nat, ∃ hs15 : (Int × Int) → Value, ∃ v16 : Value, ∃ r20 : Nat, ∃ bq8_8_1 : Nat, Mid 126 B [(0, I a0), (1, h1), (4, .pointer (some ⟨b4, 0, none⟩)), (6, .pointer (some ⟨bq8_8_1, 0, none⟩))] (OwnS 3 1 v9 (y11.map cI) :: MS (fun k : Int × Int => .agg #[I k.1, I k.2]) 3 1 cI r13 hs15 (y14) :: OwnS 4 1 v16 (y18.map cB) :: MF (fun k : Int × Int => .agg #[I k.1, I k.2]) (fun x : Bool => .bool x) r20 (y21) :: Bx bq8_8_1 134 [I a0, v9, .map (some r13), v16, .map (some r20), .slice none 0 0, .bool false, .slice none 0 0, .slice none 0 0] :: Bx b4 52 [.slice none 0 0, .bool false, .slice none 0 0, .slice none 0 0] :: L) a w) ?_ ?_
    · obtain ⟨yq8_2_1, hkq8_2_2, hj22⟩ := bind_some hj22
      obtain ⟨yq8_5_1, hkq8_5_2, hj22⟩ := bind_some hj22
      refine TC.region_any (Bx b4 52 [.slice none 0 0, .bool false, .slice none 0 0, .slice none 0 0] :: L) 10 10 kfollows_mixedOrders_true rfl ?_
      refine TA.takeW 0 rfl rfl rfl rfl (StepS.move rfl) (by kernel_rfl) (by kernel_rfl) (by kernel_rfl) rfl (.inr (fun _ s => s)) ?_
      refine TA.takeW 1 rfl rfl rfl rfl (StepS.move rfl) (by kernel_rfl) (by kernel_rfl) (by kernel_rfl) rfl (.inr (fun _ s => s)) ?_
      refine TA.takeW 4 rfl rfl rfl rfl (StepS.move rfl) (by kernel_rfl) (by kernel_rfl) (by kernel_rfl) rfl (.inr (fun _ s => s)) ?_
      refine TA.lem (γ := Nat × Value × Nat × ((Int × Int) → Value) × Value × Nat) 0 #[true, true, true, true, true, true, true, true, true, true] (fun (bq8_8_1, vq8_2_3, rq8_3_1, hsq8_3_2, vq8_5_3, rq8_6_1) => [(0, I a0), (1, h1), (4, .pointer (some ⟨b4, 0, none⟩)), (6, .pointer (some ⟨bq8_8_1, 0, none⟩))]) (fun (bq8_8_1, vq8_2_3, rq8_3_1, hsq8_3_2, vq8_5_3, rq8_6_1) => (Bx bq8_8_1 134 [I a0, vq8_2_3, .map (some rq8_3_1), vq8_5_3, .map (some rq8_6_1), .slice none 0 0, .bool false, .slice none 0 0, .slice none 0 0] :: OwnS 3 1 vq8_2_3 (yq8_2_1.map cI) :: MS (fun k : Int × Int => .agg #[I k.1, I k.2]) 3 1 cI rq8_3_1 hsq8_3_2 ((mzero : (Int × Int) → Option (List Int))) :: OwnS 4 1 vq8_5_3 (yq8_5_1.map cB) :: MF (fun k : Int × Int => .agg #[I k.1, I k.2]) (fun x : Bool => .bool x) rq8_6_1 ((mzero : (Int × Int) → Option Bool)) :: Bx b4 52 [.slice none 0 0, .bool false, .slice none 0 0, .slice none 0 0] :: L)) ?_ fun hSq8_0 => ?_
      · rintro ⟨bq8_8_1, vq8_2_3, rq8_3_1, hsq8_3_2, vq8_5_3, rq8_6_1⟩
        cases hj22
        refine TA.nil (by kernel_rfl) fun a w e s => ?_
        exact ⟨vq8_2_3, rq8_3_1, hsq8_3_2, vq8_5_3, rq8_6_1, bq8_8_1, e.sub (lk_of_allIn ⟨rfl, rfl, rfl, rfl, trivial⟩), s.mono fun _ s => (by exact Sat.by [5, 1, 5, 5, 5, 5] 6 0 (by kernel_rfl) s)⟩
      refine TA.lem (γ := Value × Nat × ((Int × Int) → Value) × Value × Nat) 2 #[true, true, true, true, true, true, true, true, false, false] (fun (vq8_2_3, rq8_3_1, hsq8_3_2, vq8_5_3, rq8_6_1) => [(0, I a0), (1, h1), (4, .pointer (some ⟨b4, 0, none⟩)), (31, .agg #[I a0, vq8_2_3, .map (some rq8_3_1), vq8_5_3, .map (some rq8_6_1), .slice none 0 0, .bool false, .slice none 0 0, .slice none 0 0])]) (fun (vq8_2_3, rq8_3_1, hsq8_3_2, vq8_5_3, rq8_6_1) => (OwnS 3 1 vq8_2_3 (yq8_2_1.map cI) :: MS (fun k : Int × Int => .agg #[I k.1, I k.2]) 3 1 cI rq8_3_1 hsq8_3_2 ((mzero : (Int × Int) → Option (List Int))) :: OwnS 4 1 vq8_5_3 (yq8_5_1.map cB) :: MF (fun k : Int × Int => .agg #[I k.1, I k.2]) (fun x : Bool => .bool x) rq8_6_1 ((mzero : (Int × Int) → Option Bool)) :: Bx b4 52 [.slice none 0 0, .bool false, .slice none 0 0, .slice none 0 0] :: L)) ?_ fun hSq8_1 => ?_
      · rintro ⟨vq8_2_3, rq8_3_1, hsq8_3_2, vq8_5_3, rq8_6_1⟩
        refine TA.all1 (i := 8) (by kernel_rfl) ?_
        · refine TB.of rfl ?_
          refine TO.box (cs := [I a0, vq8_2_3, .map (some rq8_3_1), vq8_5_3, .map (some rq8_6_1), .slice none 0 0, .bool false, .slice none 0 0, .slice none 0 0]) rfl rfl rfl fun bq8_8_1 => ?_
          refine TA.back (.inr (fun _ s => Sat.by [5] 1 5 (by kernel_rfl) s)) ?_
          refine TA.asL (L' := (Bx bq8_8_1 134 [I a0, vq8_2_3, .map (some rq8_3_1), vq8_5_3, .map (some rq8_6_1), .slice none 0 0, .bool false, .slice none 0 0, .slice none 0 0] :: OwnS 3 1 vq8_2_3 (yq8_2_1.map cI) :: MS (fun k : Int × Int => .agg #[I k.1, I k.2]) 3 1 cI rq8_3_1 hsq8_3_2 ((mzero : (Int × Int) → Option (List Int))) :: OwnS 4 1 vq8_5_3 (yq8_5_1.map cB) :: MF (fun k : Int × Int => .agg #[I k.1, I k.2]) (fun x : Bool => .bool x) rq8_6_1 ((mzero : (Int × Int) → Option Bool)) :: Bx b4 52 [.slice none 0 0, .bool false, .slice none 0 0, .slice none 0 0] :: L)) (listed' := #[true, true, true, true, true, true, true, true, true, false]) (by kernel_rfl) (by kernel_rfl) ?_
          refine TA.takeW 9 rfl rfl rfl rfl (StepS.assign rfl) (by kernel_rfl) (by kernel_rfl) (by kernel_rfl) rfl (.inr (fun _ s => Sat.by [5] 1 5 (by kernel_rfl) s)) ?_
          exact TA.jump hSq8_0 (bq8_8_1, vq8_2_3, rq8_3_1, hsq8_3_2, vq8_5_3, rq8_6_1) rfl (by kernel_rfl) ⟨rfl, rfl, rfl, rfl, trivial⟩ (fun _ s => Sat.by [5, 5, 5, 5, 5, 5] 6 0 (by kernel_rfl) s)
      refine TA.lem (γ := Value × Nat × ((Int × Int) → Value) × Value × Nat) 3 #[true, true, true, true, true, true, true, false, false, false] (fun (vq8_2_3, rq8_3_1, hsq8_3_2, vq8_5_3, rq8_6_1) => [(0, I a0), (1, h1), (4, .pointer (some ⟨b4, 0, none⟩)), (24, I a0), (26, vq8_2_3), (27, .map (some rq8_3_1)), (29, vq8_5_3), (30, .map (some rq8_6_1))]) (fun (vq8_2_3, rq8_3_1, hsq8_3_2, vq8_5_3, rq8_6_1) => (OwnS 3 1 vq8_2_3 (yq8_2_1.map cI) :: MS (fun k : Int × Int => .agg #[I k.1, I k.2]) 3 1 cI rq8_3_1 hsq8_3_2 ((mzero : (Int × Int) → Option (List Int))) :: OwnS 4 1 vq8_5_3 (yq8_5_1.map cB) :: MF (fun k : Int × Int => .agg #[I k.1, I k.2]) (fun x : Bool => .bool x) rq8_6_1 ((mzero : (Int × Int) → Option Bool)) :: Bx b4 52 [.slice none 0 0, .bool false, .slice none 0 0, .slice none 0 0] :: L)) ?_ fun hSq8_2 => ?_
      · rintro ⟨vq8_2_3, rq8_3_1, hsq8_3_2, vq8_5_3, rq8_6_1⟩
        refine TA.all1 (i := 7) (by kernel_rfl) ?_
        · refine TB.of rfl ?_
          refine TO.pure (fun _ s => Rd.one (OwnS.rd (Ent.at 0 rfl)) s) fun ocq8_7_1 => ?_
          refine TO.pure (fun _ s => Rd.one (OwnS.rd (Ent.at 2 rfl)) s) fun ocq8_7_2 => ?_
          refine TO.s rfl rfl rfl (StepS.buildS (us := [(0, I a0), (1, .agg #[vq8_2_3]), (2, .map (some rq8_3_1)), (3, .agg #[vq8_5_3]), (4, .map (some rq8_6_1))]) (cs := [I a0, vq8_2_3, .map (some rq8_3_1), vq8_5_3, .map (some rq8_6_1), .slice none 0 0, .bool false, .slice none 0 0, .slice none 0 0]) rfl (by simp only [List.map_cons, List.map_nil, ocq8_7_1.2, ocq8_7_2.2] <;> rfl) (by kernel_rfl)) ?_
          refine TA.back (.inr (fun _ s => Sat.by [4] 1 4 (by kernel_rfl) s)) ?_
          refine TA.asL (L' := (OwnS 3 1 vq8_2_3 (yq8_2_1.map cI) :: MS (fun k : Int × Int => .agg #[I k.1, I k.2]) 3 1 cI rq8_3_1 hsq8_3_2 ((mzero : (Int × Int) → Option (List Int))) :: OwnS 4 1 vq8_5_3 (yq8_5_1.map cB) :: MF (fun k : Int × Int => .agg #[I k.1, I k.2]) (fun x : Bool => .bool x) rq8_6_1 ((mzero : (Int × Int) → Option Bool)) :: Bx b4 52 [.slice none 0 0, .bool false, .slice none 0 0, .slice none 0 0] :: L)) (listed' := #[true, true, true, true, true, true, true, true, false, false]) (by kernel_rfl) (by kernel_rfl) ?_
          exact TA.jump hSq8_1 (vq8_2_3, rq8_3_1, hsq8_3_2, vq8_5_3, rq8_6_1) rfl (by kernel_rfl) ⟨rfl, rfl, rfl, rfl, trivial⟩ (fun _ s => Sat.by [4, 4, 4, 4, 4] 5 0 (by kernel_rfl) s)
      refine TA.lem (γ := Value × Value × Nat) 4 #[true, true, true, false, true, true, true, false, false, false] (fun (vq8_2_3, vq8_5_3, rq8_6_1) => [(0, I a0), (1, h1), (4, .pointer (some ⟨b4, 0, none⟩)), (24, I a0), (26, vq8_2_3), (29, vq8_5_3), (30, .map (some rq8_6_1))]) (fun (vq8_2_3, vq8_5_3, rq8_6_1) => (OwnS 3 1 vq8_2_3 (yq8_2_1.map cI) :: OwnS 4 1 vq8_5_3 (yq8_5_1.map cB) :: MF (fun k : Int × Int => .agg #[I k.1, I k.2]) (fun x : Bool => .bool x) rq8_6_1 ((mzero : (Int × Int) → Option Bool)) :: Bx b4 52 [.slice none 0 0, .bool false, .slice none 0 0, .slice none 0 0] :: L)) ?_ fun hSq8_3 => ?_
      · rintro ⟨vq8_2_3, vq8_5_3, rq8_6_1⟩
        refine TA.all1 (i := 3) (by kernel_rfl) ?_
        · refine TB.of rfl ?_
          refine TO.mkMS (kf := (fun k : Int × Int => .agg #[I k.1, I k.2])) (e := 3) (sz := 1) (f := cI) rfl fun rq8_3_1 hsq8_3_2 => ?_
          refine TA.back (.inr (fun _ s => Sat.by [4] 1 4 (by kernel_rfl) s)) ?_
          refine TA.asL (L' := (MS (fun k : Int × Int => .agg #[I k.1, I k.2]) 3 1 cI rq8_3_1 hsq8_3_2 ((mzero : (Int × Int) → Option (List Int))) :: OwnS 3 1 vq8_2_3 (yq8_2_1.map cI) :: OwnS 4 1 vq8_5_3 (yq8_5_1.map cB) :: MF (fun k : Int × Int => .agg #[I k.1, I k.2]) (fun x : Bool => .bool x) rq8_6_1 ((mzero : (Int × Int) → Option Bool)) :: Bx b4 52 [.slice none 0 0, .bool false, .slice none 0 0, .slice none 0 0] :: L)) (listed' := #[true, true, true, true, true, true, true, false, false, false]) (by kernel_rfl) (by kernel_rfl) ?_
          exact TA.jump hSq8_2 (vq8_2_3, rq8_3_1, hsq8_3_2, vq8_5_3, rq8_6_1) rfl (by kernel_rfl) ⟨rfl, rfl, rfl, rfl, rfl, rfl, rfl, rfl, trivial⟩ (fun _ s => Sat.by [4, 4, 4, 3, 4] 5 0 (by kernel_rfl) s)
      refine TA.lem (γ := Nat × ((Int × Int) → Value) × Value × Nat) 4 #[true, true, false, true, true, true, true, false, false, false] (fun (rq8_3_1, hsq8_3_2, vq8_5_3, rq8_6_1) => [(0, I a0), (1, h1), (4, .pointer (some ⟨b4, 0, none⟩)), (24, I a0), (25, I a0), (27, .map (some rq8_3_1)), (29, vq8_5_3), (30, .map (some rq8_6_1))]) (fun (rq8_3_1, hsq8_3_2, vq8_5_3, rq8_6_1) => (MS (fun k : Int × Int => .agg #[I k.1, I k.2]) 3 1 cI rq8_3_1 hsq8_3_2 ((mzero : (Int × Int) → Option (List Int))) :: OwnS 4 1 vq8_5_3 (yq8_5_1.map cB) :: MF (fun k : Int × Int => .agg #[I k.1, I k.2]) (fun x : Bool => .bool x) rq8_6_1 ((mzero : (Int × Int) → Option Bool)) :: Bx b4 52 [.slice none 0 0, .bool false, .slice none 0 0, .slice none 0 0] :: L)) ?_ fun hSq8_4 => ?_
      · rintro ⟨rq8_3_1, hsq8_3_2, vq8_5_3, rq8_6_1⟩
        refine TA.all1 (i := 2) (by kernel_rfl) ?_
        · refine TB.of rfl ?_
          refine TO.mkS (f := cI) (za := 0) kelemB_22_3_1_8_true kinfo_3_bind_zero_some_I_0 rfl (by decide) rfl rfl hkq8_2_2 rfl fun vq8_2_3 => ?_
          refine TA.back (.inr (fun _ s => Sat.by [4] 1 4 (by kernel_rfl) s)) ?_
          refine TA.asL (L' := (OwnS 3 1 vq8_2_3 (yq8_2_1.map cI) :: MS (fun k : Int × Int => .agg #[I k.1, I k.2]) 3 1 cI rq8_3_1 hsq8_3_2 ((mzero : (Int × Int) → Option (List Int))) :: OwnS 4 1 vq8_5_3 (yq8_5_1.map cB) :: MF (fun k : Int × Int => .agg #[I k.1, I k.2]) (fun x : Bool => .bool x) rq8_6_1 ((mzero : (Int × Int) → Option Bool)) :: Bx b4 52 [.slice none 0 0, .bool false, .slice none 0 0, .slice none 0 0] :: L)) (listed' := #[true, true, true, true, true, true, true, false, false, false]) (by kernel_rfl) (by kernel_rfl) ?_
          exact TA.jump hSq8_2 (vq8_2_3, rq8_3_1, hsq8_3_2, vq8_5_3, rq8_6_1) rfl (by kernel_rfl) ⟨rfl, rfl, rfl, rfl, rfl, rfl, rfl, rfl, trivial⟩ (fun _ s => Sat.by [4, 4, 4, 4, 4] 5 0 (by kernel_rfl) s)
      refine TA.lem (γ := Value × Nat × ((Int × Int) → Value) × Nat) 4 #[true, true, true, true, true, false, true, false, false, false] (fun (vq8_2_3, rq8_3_1, hsq8_3_2, rq8_6_1) => [(0, I a0), (1, h1), (4, .pointer (some ⟨b4, 0, none⟩)), (24, I a0), (26, vq8_2_3), (27, .map (some rq8_3_1)), (28, I a0), (30, .map (some rq8_6_1))]) (fun (vq8_2_3, rq8_3_1, hsq8_3_2, rq8_6_1) => (OwnS 3 1 vq8_2_3 (yq8_2_1.map cI) :: MS (fun k : Int × Int => .agg #[I k.1, I k.2]) 3 1 cI rq8_3_1 hsq8_3_2 ((mzero : (Int × Int) → Option (List Int))) :: MF (fun k : Int × Int => .agg #[I k.1, I k.2]) (fun x : Bool => .bool x) rq8_6_1 ((mzero : (Int × Int) → Option Bool)) :: Bx b4 52 [.slice none 0 0, .bool false, .slice none 0 0, .slice none 0 0] :: L)) ?_ fun hSq8_5 => ?_
      · rintro ⟨vq8_2_3, rq8_3_1, hsq8_3_2, rq8_6_1⟩
        refine TA.all1 (i := 5) (by kernel_rfl) ?_
        · refine TB.of rfl ?_
          refine TO.mkS (f := cB) (za := false) kelemB_115_4_1_1_true kinfo_4_bind_zero_some_bool_false rfl (by decide) rfl rfl hkq8_5_2 rfl fun vq8_5_3 => ?_
          refine TA.back (.inr (fun _ s => Sat.by [4] 1 4 (by kernel_rfl) s)) ?_
          refine TA.asL (L' := (OwnS 4 1 vq8_5_3 (yq8_5_1.map cB) :: OwnS 3 1 vq8_2_3 (yq8_2_1.map cI) :: MS (fun k : Int × Int => .agg #[I k.1, I k.2]) 3 1 cI rq8_3_1 hsq8_3_2 ((mzero : (Int × Int) → Option (List Int))) :: MF (fun k : Int × Int => .agg #[I k.1, I k.2]) (fun x : Bool => .bool x) rq8_6_1 ((mzero : (Int × Int) → Option Bool)) :: Bx b4 52 [.slice none 0 0, .bool false, .slice none 0 0, .slice none 0 0] :: L)) (listed' := #[true, true, true, true, true, true, true, false, false, false]) (by kernel_rfl) (by kernel_rfl) ?_
          exact TA.jump hSq8_2 (vq8_2_3, rq8_3_1, hsq8_3_2, vq8_5_3, rq8_6_1) rfl (by kernel_rfl) ⟨rfl, rfl, rfl, rfl, rfl, rfl, rfl, rfl, trivial⟩ (fun _ s => Sat.by [4, 4, 2, 4, 4] 5 0 (by kernel_rfl) s)
      refine TA.lem (γ := Value × Nat × ((Int × Int) → Value) × Value) 4 #[true, true, true, true, true, true, false, false, false, false] (fun (vq8_2_3, rq8_3_1, hsq8_3_2, vq8_5_3) => [(0, I a0), (1, h1), (4, .pointer (some ⟨b4, 0, none⟩)), (24, I a0), (26, vq8_2_3), (27, .map (some rq8_3_1)), (29, vq8_5_3)]) (fun (vq8_2_3, rq8_3_1, hsq8_3_2, vq8_5_3) => (OwnS 3 1 vq8_2_3 (yq8_2_1.map cI) :: MS (fun k : Int × Int => .agg #[I k.1, I k.2]) 3 1 cI rq8_3_1 hsq8_3_2 ((mzero : (Int × Int) → Option (List Int))) :: OwnS 4 1 vq8_5_3 (yq8_5_1.map cB) :: Bx b4 52 [.slice none 0 0, .bool false, .slice none 0 0, .slice none 0 0] :: L)) ?_ fun hSq8_6 => ?_
      · rintro ⟨vq8_2_3, rq8_3_1, hsq8_3_2, vq8_5_3⟩
        refine TA.all1 (i := 6) (by kernel_rfl) ?_
        · refine TB.of rfl ?_
          refine TO.mkMF (kf := (fun k : Int × Int => .agg #[I k.1, I k.2])) (vf := (fun x : Bool => .bool x)) rfl fun rq8_6_1 => ?_
          refine TA.back (.inr (fun _ s => Sat.by [4] 1 4 (by kernel_rfl) s)) ?_
          refine TA.asL (L' := (MF (fun k : Int × Int => .agg #[I k.1, I k.2]) (fun x : Bool => .bool x) rq8_6_1 ((mzero : (Int × Int) → Option Bool)) :: OwnS 3 1 vq8_2_3 (yq8_2_1.map cI) :: MS (fun k : Int × Int => .agg #[I k.1, I k.2]) 3 1 cI rq8_3_1 hsq8_3_2 ((mzero : (Int × Int) → Option (List Int))) :: OwnS 4 1 vq8_5_3 (yq8_5_1.map cB) :: Bx b4 52 [.slice none 0 0, .bool false, .slice none 0 0, .slice none 0 0] :: L)) (listed' := #[true, true, true, true, true, true, true, false, false, false]) (by kernel_rfl) (by kernel_rfl) ?_
          exact TA.jump hSq8_2 (vq8_2_3, rq8_3_1, hsq8_3_2, vq8_5_3, rq8_6_1) rfl (by kernel_rfl) ⟨rfl, rfl, rfl, rfl, rfl, rfl, rfl, rfl, trivial⟩ (fun _ s => Sat.by [4, 1, 4, 4, 4] 5 0 (by kernel_rfl) s)
      refine TA.lem (γ := Value × Nat) 5 #[true, true, true, false, true, false, true, false, false, false] (fun (vq8_2_3, rq8_6_1) => [(0, I a0), (1, h1), (4, .pointer (some ⟨b4, 0, none⟩)), (24, I a0), (26, vq8_2_3), (28, I a0), (30, .map (some rq8_6_1))]) (fun (vq8_2_3, rq8_6_1) => (OwnS 3 1 vq8_2_3 (yq8_2_1.map cI) :: MF (fun k : Int × Int => .agg #[I k.1, I k.2]) (fun x : Bool => .bool x) rq8_6_1 ((mzero : (Int × Int) → Option Bool)) :: Bx b4 52 [.slice none 0 0, .bool false, .slice none 0 0, .slice none 0 0] :: L)) ?_ fun hSq8_7 => ?_
      · rintro ⟨vq8_2_3, rq8_6_1⟩
        refine TA.all2 (i := 3) (j := 5) (by kernel_rfl) ?_ ?_
        · refine TB.of rfl ?_
          refine TO.mkMS (kf := (fun k : Int × Int => .agg #[I k.1, I k.2])) (e := 3) (sz := 1) (f := cI) rfl fun rq8_3_1 hsq8_3_2 => ?_
          refine TA.back (.inr (fun _ s => Sat.by [3] 1 3 (by kernel_rfl) s)) ?_
          refine TA.asL (L' := (MS (fun k : Int × Int => .agg #[I k.1, I k.2]) 3 1 cI rq8_3_1 hsq8_3_2 ((mzero : (Int × Int) → Option (List Int))) :: OwnS 3 1 vq8_2_3 (yq8_2_1.map cI) :: MF (fun k : Int × Int => .agg #[I k.1, I k.2]) (fun x : Bool => .bool x) rq8_6_1 ((mzero : (Int × Int) → Option Bool)) :: Bx b4 52 [.slice none 0 0, .bool false, .slice none 0 0, .slice none 0 0] :: L)) (listed' := #[true, true, true, true, true, false, true, false, false, false]) (by kernel_rfl) (by kernel_rfl) ?_
          exact TA.jump hSq8_5 (vq8_2_3, rq8_3_1, hsq8_3_2, rq8_6_1) rfl (by kernel_rfl) ⟨rfl, rfl, rfl, rfl, rfl, rfl, rfl, rfl, trivial⟩ (fun _ s => Sat.by [3, 3, 2, 3] 4 0 (by kernel_rfl) s)
        · refine TB.of rfl ?_
          refine TO.mkS (f := cB) (za := false) kelemB_115_4_1_1_true kinfo_4_bind_zero_some_bool_false rfl (by decide) rfl rfl hkq8_5_2 rfl fun vq8_5_3 => ?_
          refine TA.back (.inr (fun _ s => Sat.by [3] 1 3 (by kernel_rfl) s)) ?_
          refine TA.asL (L' := (OwnS 4 1 vq8_5_3 (yq8_5_1.map cB) :: OwnS 3 1 vq8_2_3 (yq8_2_1.map cI) :: MF (fun k : Int × Int => .agg #[I k.1, I k.2]) (fun x : Bool => .bool x) rq8_6_1 ((mzero : (Int × Int) → Option Bool)) :: Bx b4 52 [.slice none 0 0, .bool false, .slice none 0 0, .slice none 0 0] :: L)) (listed' := #[true, true, true, false, true, true, true, false, false, false]) (by kernel_rfl) (by kernel_rfl) ?_
          exact TA.jump hSq8_3 (vq8_2_3, vq8_5_3, rq8_6_1) rfl (by kernel_rfl) ⟨rfl, rfl, rfl, rfl, rfl, rfl, rfl, trivial⟩ (fun _ s => Sat.by [3, 3, 2, 3] 4 0 (by kernel_rfl) s)
      refine TA.lem (γ := Nat × ((Int × Int) → Value) × Nat) 5 #[true, true, false, true, true, false, true, false, false, false] (fun (rq8_3_1, hsq8_3_2, rq8_6_1) => [(0, I a0), (1, h1), (4, .pointer (some ⟨b4, 0, none⟩)), (24, I a0), (25, I a0), (27, .map (some rq8_3_1)), (28, I a0), (30, .map (some rq8_6_1))]) (fun (rq8_3_1, hsq8_3_2, rq8_6_1) => (MS (fun k : Int × Int => .agg #[I k.1, I k.2]) 3 1 cI rq8_3_1 hsq8_3_2 ((mzero : (Int × Int) → Option (List Int))) :: MF (fun k : Int × Int => .agg #[I k.1, I k.2]) (fun x : Bool => .bool x) rq8_6_1 ((mzero : (Int × Int) → Option Bool)) :: Bx b4 52 [.slice none 0 0, .bool false, .slice none 0 0, .slice none 0 0] :: L)) ?_ fun hSq8_8 => ?_
      · rintro ⟨rq8_3_1, hsq8_3_2, rq8_6_1⟩
        refine TA.all2 (i := 2) (j := 5) (by kernel_rfl) ?_ ?_
        · refine TB.of rfl ?_
          refine TO.mkS (f := cI) (za := 0) kelemB_22_3_1_8_true kinfo_3_bind_zero_some_I_0 rfl (by decide) rfl rfl hkq8_2_2 rfl fun vq8_2_3 => ?_
          refine TA.back (.inr (fun _ s => Sat.by [3] 1 3 (by kernel_rfl) s)) ?_
          refine TA.asL (L' := (OwnS 3 1 vq8_2_3 (yq8_2_1.map cI) :: MS (fun k : Int × Int => .agg #[I k.1, I k.2]) 3 1 cI rq8_3_1 hsq8_3_2 ((mzero : (Int × Int) → Option (List Int))) :: MF (fun k : Int × Int => .agg #[I k.1, I k.2]) (fun x : Bool => .bool x) rq8_6_1 ((mzero : (Int × Int) → Option Bool)) :: Bx b4 52 [.slice none 0 0, .bool false, .slice none 0 0, .slice none 0 0] :: L)) (listed' := #[true, true, true, true, true, false, true, false, false, false]) (by kernel_rfl) (by kernel_rfl) ?_
          exact TA.jump hSq8_5 (vq8_2_3, rq8_3_1, hsq8_3_2, rq8_6_1) rfl (by kernel_rfl) ⟨rfl, rfl, rfl, rfl, rfl, rfl, rfl, rfl, trivial⟩ (fun _ s => Sat.by [3, 3, 3, 3] 4 0 (by kernel_rfl) s)
        · refine TB.of rfl ?_
          refine TO.mkS (f := cB) (za := false) kelemB_115_4_1_1_true kinfo_4_bind_zero_some_bool_false rfl (by decide) rfl rfl hkq8_5_2 rfl fun vq8_5_3 => ?_
          refine TA.back (.inr (fun _ s => Sat.by [3] 1 3 (by kernel_rfl) s)) ?_
          refine TA.asL (L' := (OwnS 4 1 vq8_5_3 (yq8_5_1.map cB) :: MS (fun k : Int × Int => .agg #[I k.1, I k.2]) 3 1 cI rq8_3_1 hsq8_3_2 ((mzero : (Int × Int) → Option (List Int))) :: MF (fun k : Int × Int => .agg #[I k.1, I k.2]) (fun x : Bool => .bool x) rq8_6_1 ((mzero : (Int × Int) → Option Bool)) :: Bx b4 52 [.slice none 0 0, .bool false, .slice none 0 0, .slice none 0 0] :: L)) (listed' := #[true, true, false, true, true, true, true, false, false, false]) (by kernel_rfl) (by kernel_rfl) ?_
          exact TA.jump hSq8_4 (rq8_3_1, hsq8_3_2, vq8_5_3, rq8_6_1) rfl (by kernel_rfl) ⟨rfl, rfl, rfl, rfl, rfl, rfl, rfl, rfl, trivial⟩ (fun _ s => Sat.by [3, 3, 2, 3] 4 0 (by kernel_rfl) s)
      refine TA.lem (γ := Value × Nat) 5 #[true, true, false, false, true, true, true, false, false, false] (fun (vq8_5_3, rq8_6_1) => [(0, I a0), (1, h1), (4, .pointer (some ⟨b4, 0, none⟩)), (24, I a0), (25, I a0), (29, vq8_5_3), (30, .map (some rq8_6_1))]) (fun (vq8_5_3, rq8_6_1) => (OwnS 4 1 vq8_5_3 (yq8_5_1.map cB) :: MF (fun k : Int × Int => .agg #[I k.1, I k.2]) (fun x : Bool => .bool x) rq8_6_1 ((mzero : (Int × Int) → Option Bool)) :: Bx b4 52 [.slice none 0 0, .bool false, .slice none 0 0, .slice none 0 0] :: L)) ?_ fun hSq8_9 => ?_
      · rintro ⟨vq8_5_3, rq8_6_1⟩
        refine TA.all2 (i := 2) (j := 3) (by kernel_rfl) ?_ ?_
        · refine TB.of rfl ?_
          refine TO.mkS (f := cI) (za := 0) kelemB_22_3_1_8_true kinfo_3_bind_zero_some_I_0 rfl (by decide) rfl rfl hkq8_2_2 rfl fun vq8_2_3 => ?_
          refine TA.back (.inr (fun _ s => Sat.by [3] 1 3 (by kernel_rfl) s)) ?_
          refine TA.asL (L' := (OwnS 3 1 vq8_2_3 (yq8_2_1.map cI) :: OwnS 4 1 vq8_5_3 (yq8_5_1.map cB) :: MF (fun k : Int × Int => .agg #[I k.1, I k.2]) (fun x : Bool => .bool x) rq8_6_1 ((mzero : (Int × Int) → Option Bool)) :: Bx b4 52 [.slice none 0 0, .bool false, .slice none 0 0, .slice none 0 0] :: L)) (listed' := #[true, true, true, false, true, true, true, false, false, false]) (by kernel_rfl) (by kernel_rfl) ?_
          exact TA.jump hSq8_3 (vq8_2_3, vq8_5_3, rq8_6_1) rfl (by kernel_rfl) ⟨rfl, rfl, rfl, rfl, rfl, rfl, rfl, trivial⟩ (fun _ s => Sat.by [3, 3, 3, 3] 4 0 (by kernel_rfl) s)
        · refine TB.of rfl ?_
          refine TO.mkMS (kf := (fun k : Int × Int => .agg #[I k.1, I k.2])) (e := 3) (sz := 1) (f := cI) rfl fun rq8_3_1 hsq8_3_2 => ?_
          refine TA.back (.inr (fun _ s => Sat.by [3] 1 3 (by kernel_rfl) s)) ?_
          refine TA.asL (L' := (MS (fun k : Int × Int => .agg #[I k.1, I k.2]) 3 1 cI rq8_3_1 hsq8_3_2 ((mzero : (Int × Int) → Option (List Int))) :: OwnS 4 1 vq8_5_3 (yq8_5_1.map cB) :: MF (fun k : Int × Int => .agg #[I k.1, I k.2]) (fun x : Bool => .bool x) rq8_6_1 ((mzero : (Int × Int) → Option Bool)) :: Bx b4 52 [.slice none 0 0, .bool false, .slice none 0 0, .slice none 0 0] :: L)) (listed' := #[true, true, false, true, true, true, true, false, false, false]) (by kernel_rfl) (by kernel_rfl) ?_
          exact TA.jump hSq8_4 (rq8_3_1, hsq8_3_2, vq8_5_3, rq8_6_1) rfl (by kernel_rfl) ⟨rfl, rfl, rfl, rfl, rfl, rfl, rfl, rfl, trivial⟩ (fun _ s => Sat.by [3, 3, 3, 3] 4 0 (by kernel_rfl) s)
      refine TA.lem (γ := Value × Value) 5 #[true, true, true, false, true, true, false, false, false, false] (fun (vq8_2_3, vq8_5_3) => [(0, I a0), (1, h1), (4, .pointer (some ⟨b4, 0, none⟩)), (24, I a0), (26, vq8_2_3), (29, vq8_5_3)]) (fun (vq8_2_3, vq8_5_3) => (OwnS 3 1 vq8_2_3 (yq8_2_1.map cI) :: OwnS 4 1 vq8_5_3 (yq8_5_1.map cB) :: Bx b4 52 [.slice none 0 0, .bool false, .slice none 0 0, .slice none 0 0] :: L)) ?_ fun hSq8_10 => ?_
      · rintro ⟨vq8_2_3, vq8_5_3⟩
        refine TA.all2 (i := 3) (j := 6) (by kernel_rfl) ?_ ?_
        · refine TB.of rfl ?_
          refine TO.mkMS (kf := (fun k : Int × Int => .agg #[I k.1, I k.2])) (e := 3) (sz := 1) (f := cI) rfl fun rq8_3_1 hsq8_3_2 => ?_
          refine TA.back (.inr (fun _ s => Sat.by [3] 1 3 (by kernel_rfl) s)) ?_
          refine TA.asL (L' := (MS (fun k : Int × Int => .agg #[I k.1, I k.2]) 3 1 cI rq8_3_1 hsq8_3_2 ((mzero : (Int × Int) → Option (List Int))) :: OwnS 3 1 vq8_2_3 (yq8_2_1.map cI) :: OwnS 4 1 vq8_5_3 (yq8_5_1.map cB) :: Bx b4 52 [.slice none 0 0, .bool false, .slice none 0 0, .slice none 0 0] :: L)) (listed' := #[true, true, true, true, true, true, false, false, false, false]) (by kernel_rfl) (by kernel_rfl) ?_
          exact TA.jump hSq8_6 (vq8_2_3, rq8_3_1, hsq8_3_2, vq8_5_3) rfl (by kernel_rfl) ⟨rfl, rfl, rfl, rfl, rfl, rfl, rfl, trivial⟩ (fun _ s => Sat.by [3, 3, 2, 3] 4 0 (by kernel_rfl) s)
        · refine TB.of rfl ?_
          refine TO.mkMF (kf := (fun k : Int × Int => .agg #[I k.1, I k.2])) (vf := (fun x : Bool => .bool x)) rfl fun rq8_6_1 => ?_
          refine TA.back (.inr (fun _ s => Sat.by [3] 1 3 (by kernel_rfl) s)) ?_
          refine TA.asL (L' := (MF (fun k : Int × Int => .agg #[I k.1, I k.2]) (fun x : Bool => .bool x) rq8_6_1 ((mzero : (Int × Int) → Option Bool)) :: OwnS 3 1 vq8_2_3 (yq8_2_1.map cI) :: OwnS 4 1 vq8_5_3 (yq8_5_1.map cB) :: Bx b4 52 [.slice none 0 0, .bool false, .slice none 0 0, .slice none 0 0] :: L)) (listed' := #[true, true, true, false, true, true, true, false, false, false]) (by kernel_rfl) (by kernel_rfl) ?_
          exact TA.jump hSq8_3 (vq8_2_3, vq8_5_3, rq8_6_1) rfl (by kernel_rfl) ⟨rfl, rfl, rfl, rfl, rfl, rfl, rfl, trivial⟩ (fun _ s => Sat.by [3, 1, 3, 3] 4 0 (by kernel_rfl) s)
      refine TA.lem (γ := Nat × ((Int × Int) → Value) × Value) 5 #[true, true, false, true, true, true, false, false, false, false] (fun (rq8_3_1, hsq8_3_2, vq8_5_3) => [(0, I a0), (1, h1), (4, .pointer (some ⟨b4, 0, none⟩)), (24, I a0), (25, I a0), (27, .map (some rq8_3_1)), (29, vq8_5_3)]) (fun (rq8_3_1, hsq8_3_2, vq8_5_3) => (MS (fun k : Int × Int => .agg #[I k.1, I k.2]) 3 1 cI rq8_3_1 hsq8_3_2 ((mzero : (Int × Int) → Option (List Int))) :: OwnS 4 1 vq8_5_3 (yq8_5_1.map cB) :: Bx b4 52 [.slice none 0 0, .bool false, .slice none 0 0, .slice none 0 0] :: L)) ?_ fun hSq8_11 => ?_
      · rintro ⟨rq8_3_1, hsq8_3_2, vq8_5_3⟩
        refine TA.all2 (i := 2) (j := 6) (by kernel_rfl) ?_ ?_
        · refine TB.of rfl ?_
          refine TO.mkS (f := cI) (za := 0) kelemB_22_3_1_8_true kinfo_3_bind_zero_some_I_0 rfl (by decide) rfl rfl hkq8_2_2 rfl fun vq8_2_3 => ?_
          refine TA.back (.inr (fun _ s => Sat.by [3] 1 3 (by kernel_rfl) s)) ?_
          refine TA.asL (L' := (OwnS 3 1 vq8_2_3 (yq8_2_1.map cI) :: MS (fun k : Int × Int => .agg #[I k.1, I k.2]) 3 1 cI rq8_3_1 hsq8_3_2 ((mzero : (Int × Int) → Option (List Int))) :: OwnS 4 1 vq8_5_3 (yq8_5_1.map cB) :: Bx b4 52 [.slice none 0 0, .bool false, .slice none 0 0, .slice none 0 0] :: L)) (listed' := #[true, true, true, true, true, true, false, false, false, false]) (by kernel_rfl) (by kernel_rfl) ?_
          exact TA.jump hSq8_6 (vq8_2_3, rq8_3_1, hsq8_3_2, vq8_5_3) rfl (by kernel_rfl) ⟨rfl, rfl, rfl, rfl, rfl, rfl, rfl, trivial⟩ (fun _ s => Sat.by [3, 3, 3, 3] 4 0 (by kernel_rfl) s)
        · refine TB.of rfl ?_
          refine TO.mkMF (kf := (fun k : Int × Int => .agg #[I k.1, I k.2])) (vf := (fun x : Bool => .bool x)) rfl fun rq8_6_1 => ?_
          refine TA.back (.inr (fun _ s => Sat.by [3] 1 3 (by kernel_rfl) s)) ?_
          refine TA.asL (L' := (MF (fun k : Int × Int => .agg #[I k.1, I k.2]) (fun x : Bool => .bool x) rq8_6_1 ((mzero : (Int × Int) → Option Bool)) :: MS (fun k : Int × Int => .agg #[I k.1, I k.2]) 3 1 cI rq8_3_1 hsq8_3_2 ((mzero : (Int × Int) → Option (List Int))) :: OwnS 4 1 vq8_5_3 (yq8_5_1.map cB) :: Bx b4 52 [.slice none 0 0, .bool false, .slice none 0 0, .slice none 0 0] :: L)) (listed' := #[true, true, false, true, true, true, true, false, false, false]) (by kernel_rfl) (by kernel_rfl) ?_
          exact TA.jump hSq8_4 (rq8_3_1, hsq8_3_2, vq8_5_3, rq8_6_1) rfl (by kernel_rfl) ⟨rfl, rfl, rfl, rfl, rfl, rfl, rfl, rfl, trivial⟩ (fun _ s => Sat.by [3, 1, 3, 3] 4 0 (by kernel_rfl) s)
      refine TA.lem (γ := Value × Nat × ((Int × Int) → Value)) 5 #[true, true, true, true, true, false, false, false, false, false] (fun (vq8_2_3, rq8_3_1, hsq8_3_2) => [(0, I a0), (1, h1), (4, .pointer (some ⟨b4, 0, none⟩)), (24, I a0), (26, vq8_2_3), (27, .map (some rq8_3_1)), (28, I a0)]) (fun (vq8_2_3, rq8_3_1, hsq8_3_2) => (OwnS 3 1 vq8_2_3 (yq8_2_1.map cI) :: MS (fun k : Int × Int => .agg #[I k.1, I k.2]) 3 1 cI rq8_3_1 hsq8_3_2 ((mzero : (Int × Int) → Option (List Int))) :: Bx b4 52 [.slice none 0 0, .bool false, .slice none 0 0, .slice none 0 0] :: L)) ?_ fun hSq8_12 => ?_
      · rintro ⟨vq8_2_3, rq8_3_1, hsq8_3_2⟩
        refine TA.all2 (i := 5) (j := 6) (by kernel_rfl) ?_ ?_
        · refine TB.of rfl ?_
          refine TO.mkS (f := cB) (za := false) kelemB_115_4_1_1_true kinfo_4_bind_zero_some_bool_false rfl (by decide) rfl rfl hkq8_5_2 rfl fun vq8_5_3 => ?_
          refine TA.back (.inr (fun _ s => Sat.by [3] 1 3 (by kernel_rfl) s)) ?_
          refine TA.asL (L' := (OwnS 4 1 vq8_5_3 (yq8_5_1.map cB) :: OwnS 3 1 vq8_2_3 (yq8_2_1.map cI) :: MS (fun k : Int × Int => .agg #[I k.1, I k.2]) 3 1 cI rq8_3_1 hsq8_3_2 ((mzero : (Int × Int) → Option (List Int))) :: Bx b4 52 [.slice none 0 0, .bool false, .slice none 0 0, .slice none 0 0] :: L)) (listed' := #[true, true, true, true, true, true, false, false, false, false]) (by kernel_rfl) (by kernel_rfl) ?_
          exact TA.jump hSq8_6 (vq8_2_3, rq8_3_1, hsq8_3_2, vq8_5_3) rfl (by kernel_rfl) ⟨rfl, rfl, rfl, rfl, rfl, rfl, rfl, trivial⟩ (fun _ s => Sat.by [3, 1, 3, 3] 4 0 (by kernel_rfl) s)
        · refine TB.of rfl ?_
          refine TO.mkMF (kf := (fun k : Int × Int => .agg #[I k.1, I k.2])) (vf := (fun x : Bool => .bool x)) rfl fun rq8_6_1 => ?_
          refine TA.back (.inr (fun _ s => Sat.by [3] 1 3 (by kernel_rfl) s)) ?_
          refine TA.asL (L' := (MF (fun k : Int × Int => .agg #[I k.1, I k.2]) (fun x : Bool => .bool x) rq8_6_1 ((mzero : (Int × Int) → Option Bool)) :: OwnS 3 1 vq8_2_3 (yq8_2_1.map cI) :: MS (fun k : Int × Int => .agg #[I k.1, I k.2]) 3 1 cI rq8_3_1 hsq8_3_2 ((mzero : (Int × Int) → Option (List Int))) :: Bx b4 52 [.slice none 0 0, .bool false, .slice none 0 0, .slice none 0 0] :: L)) (listed' := #[true, true, true, true, true, false, true, false, false, false]) (by kernel_rfl) (by kernel_rfl) ?_
          exact TA.jump hSq8_5 (vq8_2_3, rq8_3_1, hsq8_3_2, rq8_6_1) rfl (by kernel_rfl) ⟨rfl, rfl, rfl, rfl, rfl, rfl, rfl, rfl, trivial⟩ (fun _ s => Sat.by [3, 1, 3, 3] 4 0 (by kernel_rfl) s)
      refine TA.lem (γ := Value) 6 #[true, true, true, false, true, false, false, false, false, false] (fun vq8_2_3 => [(0, I a0), (1, h1), (4, .pointer (some ⟨b4, 0, none⟩)), (24, I a0), (26, vq8_2_3), (28, I a0)]) (fun vq8_2_3 => (OwnS 3 1 vq8_2_3 (yq8_2_1.map cI) :: Bx b4 52 [.slice none 0 0, .bool false, .slice none 0 0, .slice none 0 0] :: L)) ?_ fun hSq8_13 => ?_
      · intro vq8_2_3
        refine TA.all3 (i := 3) (j := 5) (k := 6) (by kernel_rfl) ?_ ?_ ?_
        · refine TB.of rfl ?_
          refine TO.mkMS (kf := (fun k : Int × Int => .agg #[I k.1, I k.2])) (e := 3) (sz := 1) (f := cI) rfl fun rq8_3_1 hsq8_3_2 => ?_
          refine TA.back (.inr (fun _ s => Sat.by [2] 1 2 (by kernel_rfl) s)) ?_
          refine TA.asL (L' := (MS (fun k : Int × Int => .agg #[I k.1, I k.2]) 3 1 cI rq8_3_1 hsq8_3_2 ((mzero : (Int × Int) → Option (List Int))) :: OwnS 3 1 vq8_2_3 (yq8_2_1.map cI) :: Bx b4 52 [.slice none 0 0, .bool false, .slice none 0 0, .slice none 0 0] :: L)) (listed' := #[true, true, true, true, true, false, false, false, false, false]) (by kernel_rfl) (by kernel_rfl) ?_
          exact TA.jump hSq8_12 (vq8_2_3, rq8_3_1, hsq8_3_2) rfl (by kernel_rfl) ⟨rfl, rfl, rfl, rfl, rfl, rfl, rfl, trivial⟩ (fun _ s => Sat.by [2, 1, 2] 3 0 (by kernel_rfl) s)
        · refine TB.of rfl ?_
          refine TO.mkS (f := cB) (za := false) kelemB_115_4_1_1_true kinfo_4_bind_zero_some_bool_false rfl (by decide) rfl rfl hkq8_5_2 rfl fun vq8_5_3 => ?_
          refine TA.back (.inr (fun _ s => Sat.by [2] 1 2 (by kernel_rfl) s)) ?_
          refine TA.asL (L' := (OwnS 4 1 vq8_5_3 (yq8_5_1.map cB) :: OwnS 3 1 vq8_2_3 (yq8_2_1.map cI) :: Bx b4 52 [.slice none 0 0, .bool false, .slice none 0 0, .slice none 0 0] :: L)) (listed' := #[true, true, true, false, true, true, false, false, false, false]) (by kernel_rfl) (by kernel_rfl) ?_
          exact TA.jump hSq8_10 (vq8_2_3, vq8_5_3) rfl (by kernel_rfl) ⟨rfl, rfl, rfl, rfl, rfl, rfl, trivial⟩ (fun _ s => Sat.by [2, 1, 2] 3 0 (by kernel_rfl) s)
        · refine TB.of rfl ?_
          refine TO.mkMF (kf := (fun k : Int × Int => .agg #[I k.1, I k.2])) (vf := (fun x : Bool => .bool x)) rfl fun rq8_6_1 => ?_
          refine TA.back (.inr (fun _ s => Sat.by [2] 1 2 (by kernel_rfl) s)) ?_
          refine TA.asL (L' := (MF (fun k : Int × Int => .agg #[I k.1, I k.2]) (fun x : Bool => .bool x) rq8_6_1 ((mzero : (Int × Int) → Option Bool)) :: OwnS 3 1 vq8_2_3 (yq8_2_1.map cI) :: Bx b4 52 [.slice none 0 0, .bool false, .slice none 0 0, .slice none 0 0] :: L)) (listed' := #[true, true, true, false, true, false, true, false, false, false]) (by kernel_rfl) (by kernel_rfl) ?_
          exact TA.jump hSq8_7 (vq8_2_3, rq8_6_1) rfl (by kernel_rfl) ⟨rfl, rfl, rfl, rfl, rfl, rfl, rfl, trivial⟩ (fun _ s => Sat.by [2, 1, 2] 3 0 (by kernel_rfl) s)
      refine TA.lem (γ := Nat × ((Int × Int) → Value)) 6 #[true, true, false, true, true, false, false, false, false, false] (fun (rq8_3_1, hsq8_3_2) => [(0, I a0), (1, h1), (4, .pointer (some ⟨b4, 0, none⟩)), (24, I a0), (25, I a0), (27, .map (some rq8_3_1)), (28, I a0)]) (fun (rq8_3_1, hsq8_3_2) => (MS (fun k : Int × Int => .agg #[I k.1, I k.2]) 3 1 cI rq8_3_1 hsq8_3_2 ((mzero : (Int × Int) → Option (List Int))) :: Bx b4 52 [.slice none 0 0, .bool false, .slice none 0 0, .slice none 0 0] :: L)) ?_ fun hSq8_14 => ?_
      · rintro ⟨rq8_3_1, hsq8_3_2⟩
        refine TA.all3 (i := 2) (j := 5) (k := 6) (by kernel_rfl) ?_ ?_ ?_
        · refine TB.of rfl ?_
          refine TO.mkS (f := cI) (za := 0) kelemB_22_3_1_8_true kinfo_3_bind_zero_some_I_0 rfl (by decide) rfl rfl hkq8_2_2 rfl fun vq8_2_3 => ?_
          refine TA.back (.inr (fun _ s => Sat.by [2] 1 2 (by kernel_rfl) s)) ?_
          refine TA.asL (L' := (OwnS 3 1 vq8_2_3 (yq8_2_1.map cI) :: MS (fun k : Int × Int => .agg #[I k.1, I k.2]) 3 1 cI rq8_3_1 hsq8_3_2 ((mzero : (Int × Int) → Option (List Int))) :: Bx b4 52 [.slice none 0 0, .bool false, .slice none 0 0, .slice none 0 0] :: L)) (listed' := #[true, true, true, true, true, false, false, false, false, false]) (by kernel_rfl) (by kernel_rfl) ?_
          exact TA.jump hSq8_12 (vq8_2_3, rq8_3_1, hsq8_3_2) rfl (by kernel_rfl) ⟨rfl, rfl, rfl, rfl, rfl, rfl, rfl, trivial⟩ (fun _ s => Sat.by [2, 2, 2] 3 0 (by kernel_rfl) s)
        · refine TB.of rfl ?_
          refine TO.mkS (f := cB) (za := false) kelemB_115_4_1_1_true kinfo_4_bind_zero_some_bool_false rfl (by decide) rfl rfl hkq8_5_2 rfl fun vq8_5_3 => ?_
          refine TA.back (.inr (fun _ s => Sat.by [2] 1 2 (by kernel_rfl) s)) ?_
          refine TA.asL (L' := (OwnS 4 1 vq8_5_3 (yq8_5_1.map cB) :: MS (fun k : Int × Int => .agg #[I k.1, I k.2]) 3 1 cI rq8_3_1 hsq8_3_2 ((mzero : (Int × Int) → Option (List Int))) :: Bx b4 52 [.slice none 0 0, .bool false, .slice none 0 0, .slice none 0 0] :: L)) (listed' := #[true, true, false, true, true, true, false, false, false, false]) (by kernel_rfl) (by kernel_rfl) ?_
          exact TA.jump hSq8_11 (rq8_3_1, hsq8_3_2, vq8_5_3) rfl (by kernel_rfl) ⟨rfl, rfl, rfl, rfl, rfl, rfl, rfl, trivial⟩ (fun _ s => Sat.by [2, 1, 2] 3 0 (by kernel_rfl) s)
        · refine TB.of rfl ?_
          refine TO.mkMF (kf := (fun k : Int × Int => .agg #[I k.1, I k.2])) (vf := (fun x : Bool => .bool x)) rfl fun rq8_6_1 => ?_
          refine TA.back (.inr (fun _ s => Sat.by [2] 1 2 (by kernel_rfl) s)) ?_
          refine TA.asL (L' := (MF (fun k : Int × Int => .agg #[I k.1, I k.2]) (fun x : Bool => .bool x) rq8_6_1 ((mzero : (Int × Int) → Option Bool)) :: MS (fun k : Int × Int => .agg #[I k.1, I k.2]) 3 1 cI rq8_3_1 hsq8_3_2 ((mzero : (Int × Int) → Option (List Int))) :: Bx b4 52 [.slice none 0 0, .bool false, .slice none 0 0, .slice none 0 0] :: L)) (listed' := #[true, true, false, true, true, false, true, false, false, false]) (by kernel_rfl) (by kernel_rfl) ?_
          exact TA.jump hSq8_8 (rq8_3_1, hsq8_3_2, rq8_6_1) rfl (by kernel_rfl) ⟨rfl, rfl, rfl, rfl, rfl, rfl, rfl, rfl, trivial⟩ (fun _ s => Sat.by [2, 1, 2] 3 0 (by kernel_rfl) s)
      refine TA.lem (γ := Value) 6 #[true, true, false, false, true, true, false, false, false, false] (fun vq8_5_3 => [(0, I a0), (1, h1), (4, .pointer (some ⟨b4, 0, none⟩)), (24, I a0), (25, I a0), (29, vq8_5_3)]) (fun vq8_5_3 => (OwnS 4 1 vq8_5_3 (yq8_5_1.map cB) :: Bx b4 52 [.slice none 0 0, .bool false, .slice none 0 0, .slice none 0 0] :: L)) ?_ fun hSq8_15 => ?_
      · intro vq8_5_3
        refine TA.all3 (i := 2) (j := 3) (k := 6) (by kernel_rfl) ?_ ?_ ?_
        · refine TB.of rfl ?_
          refine TO.mkS (f := cI) (za := 0) kelemB_22_3_1_8_true kinfo_3_bind_zero_some_I_0 rfl (by decide) rfl rfl hkq8_2_2 rfl fun vq8_2_3 => ?_
          refine TA.back (.inr (fun _ s => Sat.by [2] 1 2 (by kernel_rfl) s)) ?_
          refine TA.asL (L' := (OwnS 3 1 vq8_2_3 (yq8_2_1.map cI) :: OwnS 4 1 vq8_5_3 (yq8_5_1.map cB) :: Bx b4 52 [.slice none 0 0, .bool false, .slice none 0 0, .slice none 0 0] :: L)) (listed' := #[true, true, true, false, true, true, false, false, false, false]) (by kernel_rfl) (by kernel_rfl) ?_
          exact TA.jump hSq8_10 (vq8_2_3, vq8_5_3) rfl (by kernel_rfl) ⟨rfl, rfl, rfl, rfl, rfl, rfl, trivial⟩ (fun _ s => Sat.by [2, 2, 2] 3 0 (by kernel_rfl) s)
        · refine TB.of rfl ?_
          refine TO.mkMS (kf := (fun k : Int × Int => .agg #[I k.1, I k.2])) (e := 3) (sz := 1) (f := cI) rfl fun rq8_3_1 hsq8_3_2 => ?_
          refine TA.back (.inr (fun _ s => Sat.by [2] 1 2 (by kernel_rfl) s)) ?_
          refine TA.asL (L' := (MS (fun k : Int × Int => .agg #[I k.1, I k.2]) 3 1 cI rq8_3_1 hsq8_3_2 ((mzero : (Int × Int) → Option (List Int))) :: OwnS 4 1 vq8_5_3 (yq8_5_1.map cB) :: Bx b4 52 [.slice none 0 0, .bool false, .slice none 0 0, .slice none 0 0] :: L)) (listed' := #[true, true, false, true, true, true, false, false, false, false]) (by kernel_rfl) (by kernel_rfl) ?_
          exact TA.jump hSq8_11 (rq8_3_1, hsq8_3_2, vq8_5_3) rfl (by kernel_rfl) ⟨rfl, rfl, rfl, rfl, rfl, rfl, rfl, trivial⟩ (fun _ s => Sat.by [2, 2, 2] 3 0 (by kernel_rfl) s)
        · refine TB.of rfl ?_
          refine TO.mkMF (kf := (fun k : Int × Int => .agg #[I k.1, I k.2])) (vf := (fun x : Bool => .bool x)) rfl fun rq8_6_1 => ?_
          refine TA.back (.inr (fun _ s => Sat.by [2] 1 2 (by kernel_rfl) s)) ?_
          refine TA.asL (L' := (MF (fun k : Int × Int => .agg #[I k.1, I k.2]) (fun x : Bool => .bool x) rq8_6_1 ((mzero : (Int × Int) → Option Bool)) :: OwnS 4 1 vq8_5_3 (yq8_5_1.map cB) :: Bx b4 52 [.slice none 0 0, .bool false, .slice none 0 0, .slice none 0 0] :: L)) (listed' := #[true, true, false, false, true, true, true, false, false, false]) (by kernel_rfl) (by kernel_rfl) ?_
          exact TA.jump hSq8_9 (vq8_5_3, rq8_6_1) rfl (by kernel_rfl) ⟨rfl, rfl, rfl, rfl, rfl, rfl, rfl, trivial⟩ (fun _ s => Sat.by [2, 1, 2] 3 0 (by kernel_rfl) s)
      refine TA.lem (γ := Nat) 6 #[true, true, false, false, true, false, true, false, false, false] (fun rq8_6_1 => [(0, I a0), (1, h1), (4, .pointer (some ⟨b4, 0, none⟩)), (24, I a0), (25, I a0), (28, I a0), (30, .map (some rq8_6_1))]) (fun rq8_6_1 => (MF (fun k : Int × Int => .agg #[I k.1, I k.2]) (fun x : Bool => .bool x) rq8_6_1 ((mzero : (Int × Int) → Option Bool)) :: Bx b4 52 [.slice none 0 0, .bool false, .slice none 0 0, .slice none 0 0] :: L)) ?_ fun hSq8_16 => ?_
      · intro rq8_6_1
        refine TA.all3 (i := 2) (j := 3) (k := 5) (by kernel_rfl) ?_ ?_ ?_
        · refine TB.of rfl ?_
          refine TO.mkS (f := cI) (za := 0) kelemB_22_3_1_8_true kinfo_3_bind_zero_some_I_0 rfl (by decide) rfl rfl hkq8_2_2 rfl fun vq8_2_3 => ?_
          refine TA.back (.inr (fun _ s => Sat.by [2] 1 2 (by kernel_rfl) s)) ?_
          refine TA.asL (L' := (OwnS 3 1 vq8_2_3 (yq8_2_1.map cI) :: MF (fun k : Int × Int => .agg #[I k.1, I k.2]) (fun x : Bool => .bool x) rq8_6_1 ((mzero : (Int × Int) → Option Bool)) :: Bx b4 52 [.slice none 0 0, .bool false, .slice none 0 0, .slice none 0 0] :: L)) (listed' := #[true, true, true, false, true, false, true, false, false, false]) (by kernel_rfl) (by kernel_rfl) ?_
          exact TA.jump hSq8_7 (vq8_2_3, rq8_6_1) rfl (by kernel_rfl) ⟨rfl, rfl, rfl, rfl, rfl, rfl, rfl, trivial⟩ (fun _ s => Sat.by [2, 2, 2] 3 0 (by kernel_rfl) s)
        · refine TB.of rfl ?_
          refine TO.mkMS (kf := (fun k : Int × Int => .agg #[I k.1, I k.2])) (e := 3) (sz := 1) (f := cI) rfl fun rq8_3_1 hsq8_3_2 => ?_
          refine TA.back (.inr (fun _ s => Sat.by [2] 1 2 (by kernel_rfl) s)) ?_
          refine TA.asL (L' := (MS (fun k : Int × Int => .agg #[I k.1, I k.2]) 3 1 cI rq8_3_1 hsq8_3_2 ((mzero : (Int × Int) → Option (List Int))) :: MF (fun k : Int × Int => .agg #[I k.1, I k.2]) (fun x : Bool => .bool x) rq8_6_1 ((mzero : (Int × Int) → Option Bool)) :: Bx b4 52 [.slice none 0 0, .bool false, .slice none 0 0, .slice none 0 0] :: L)) (listed' := #[true, true, false, true, true, false, true, false, false, false]) (by kernel_rfl) (by kernel_rfl) ?_
          exact TA.jump hSq8_8 (rq8_3_1, hsq8_3_2, rq8_6_1) rfl (by kernel_rfl) ⟨rfl, rfl, rfl, rfl, rfl, rfl, rfl, rfl, trivial⟩ (fun _ s => Sat.by [2, 2, 2] 3 0 (by kernel_rfl) s)
        · refine TB.of rfl ?_
          refine TO.mkS (f := cB) (za := false) kelemB_115_4_1_1_true kinfo_4_bind_zero_some_bool_false rfl (by decide) rfl rfl hkq8_5_2 rfl fun vq8_5_3 => ?_
          refine TA.back (.inr (fun _ s => Sat.by [2] 1 2 (by kernel_rfl) s)) ?_
          refine TA.asL (L' := (OwnS 4 1 vq8_5_3 (yq8_5_1.map cB) :: MF (fun k : Int × Int => .agg #[I k.1, I k.2]) (fun x : Bool => .bool x) rq8_6_1 ((mzero : (Int × Int) → Option Bool)) :: Bx b4 52 [.slice none 0 0, .bool false, .slice none 0 0, .slice none 0 0] :: L)) (listed' := #[true, true, false, false, true, true, true, false, false, false]) (by kernel_rfl) (by kernel_rfl) ?_
          exact TA.jump hSq8_9 (vq8_5_3, rq8_6_1) rfl (by kernel_rfl) ⟨rfl, rfl, rfl, rfl, rfl, rfl, rfl, trivial⟩ (fun _ s => Sat.by [2, 2, 2] 3 0 (by kernel_rfl) s)
      refine TA.all4 (i := 2) (j := 3) (k := 5) (m := 6) (by kernel_rfl) ?_ ?_ ?_ ?_
      · refine TB.of rfl ?_
        refine TO.mkS (f := cI) (za := 0) kelemB_22_3_1_8_true kinfo_3_bind_zero_some_I_0 rfl (by decide) rfl rfl hkq8_2_2 rfl fun vq8_2_3 => ?_
        refine TA.back (.inr (fun _ s => Sat.by [1] 1 1 (by kernel_rfl) s)) ?_
        refine TA.asL (L' := (OwnS 3 1 vq8_2_3 (yq8_2_1.map cI) :: Bx b4 52 [.slice none 0 0, .bool false, .slice none 0 0, .slice none 0 0] :: L)) (listed' := #[true, true, true, false, true, false, false, false, false, false]) (by kernel_rfl) (by kernel_rfl) ?_
        exact TA.jump hSq8_13 vq8_2_3 rfl (by kernel_rfl) ⟨rfl, rfl, rfl, rfl, rfl, rfl, trivial⟩ (fun _ s => Sat.by [1, 1] 2 0 (by kernel_rfl) s)
      · refine TB.of rfl ?_
        refine TO.mkMS (kf := (fun k : Int × Int => .agg #[I k.1, I k.2])) (e := 3) (sz := 1) (f := cI) rfl fun rq8_3_1 hsq8_3_2 => ?_
        refine TA.back (.inr (fun _ s => Sat.by [1] 1 1 (by kernel_rfl) s)) ?_
        refine TA.asL (L' := (MS (fun k : Int × Int => .agg #[I k.1, I k.2]) 3 1 cI rq8_3_1 hsq8_3_2 ((mzero : (Int × Int) → Option (List Int))) :: Bx b4 52 [.slice none 0 0, .bool false, .slice none 0 0, .slice none 0 0] :: L)) (listed' := #[true, true, false, true, true, false, false, false, false, false]) (by kernel_rfl) (by kernel_rfl) ?_
        exact TA.jump hSq8_14 (rq8_3_1, hsq8_3_2) rfl (by kernel_rfl) ⟨rfl, rfl, rfl, rfl, rfl, rfl, rfl, trivial⟩ (fun _ s => Sat.by [1, 1] 2 0 (by kernel_rfl) s)
      · refine TB.of rfl ?_
        refine TO.mkS (f := cB) (za := false) kelemB_115_4_1_1_true kinfo_4_bind_zero_some_bool_false rfl (by decide) rfl rfl hkq8_5_2 rfl fun vq8_5_3 => ?_
        refine TA.back (.inr (fun _ s => Sat.by [1] 1 1 (by kernel_rfl) s)) ?_
        refine TA.asL (L' := (OwnS 4 1 vq8_5_3 (yq8_5_1.map cB) :: Bx b4 52 [.slice none 0 0, .bool false, .slice none 0 0, .slice none 0 0] :: L)) (listed' := #[true, true, false, false, true, true, false, false, false, false]) (by kernel_rfl) (by kernel_rfl) ?_
        exact TA.jump hSq8_15 vq8_5_3 rfl (by kernel_rfl) ⟨rfl, rfl, rfl, rfl, rfl, rfl, trivial⟩ (fun _ s => Sat.by [1, 1] 2 0 (by kernel_rfl) s)
      · refine TB.of rfl ?_
        refine TO.mkMF (kf := (fun k : Int × Int => .agg #[I k.1, I k.2])) (vf := (fun x : Bool => .bool x)) rfl fun rq8_6_1 => ?_
        refine TA.back (.inr (fun _ s => Sat.by [1] 1 1 (by kernel_rfl) s)) ?_
        refine TA.asL (L' := (MF (fun k : Int × Int => .agg #[I k.1, I k.2]) (fun x : Bool => .bool x) rq8_6_1 ((mzero : (Int × Int) → Option Bool)) :: Bx b4 52 [.slice none 0 0, .bool false, .slice none 0 0, .slice none 0 0] :: L)) (listed' := #[true, true, false, false, true, false, true, false, false, false]) (by kernel_rfl) (by kernel_rfl) ?_
        exact TA.jump hSq8_16 rq8_6_1 rfl (by kernel_rfl) ⟨rfl, rfl, rfl, rfl, rfl, rfl, rfl, trivial⟩ (fun _ s => Sat.by [1, 1] 2 0 (by kernel_rfl) s)
    · intro a w ⟨v9, r13, hs15, v16, r20, bq8_8_1, he, hs⟩
      refine TC.use ?_ he hs
      refine TC.k ?_
      obtain ⟨⟨y26, y30⟩, hj31, hm⟩ := bind_some hm
      first | refine TC.cutM (fun a w => ∃ v24 : Value, ∃ v27 : Value, ∃ hs28 : List Value, Mid 126 B [(0, I a0), (1, h1), (4, .pointer (some ⟨b4, 0, none⟩)), (6, .pointer (some ⟨bq8_8_1, 0, none⟩))] (OwnS 3 1 v24 (y26.map cI) :: SS 22 3 1 cI v27 hs28 (y30) :: OwnS 3 1 v9 (y11.map cI) :: MS (fun k : Int × Int => .agg #[I k.1, I k.2]) 3 1 cI r13 hs15 (y14) :: OwnS 4 1 v16 (y18.map cB) :: MF (fun k : Int × Int => .agg #[I k.1, I k.2]) (fun x : Bool => .bool x) r20 (y21) :: Bx bq8_8_1 134 [I a0, v9, .map (some r13), v16, .map (some r20), .slice none 0 0, .bool false, v24, v27] :: Bx b4 52 [.slice none 0 0, .bool false, .slice none 0 0, .slice none 0 0] :: L) a w) ?_ ?_ | refine TC.cutX (fun a w => ∃ v24 : Value, ∃ v27 : Value, ∃ hs28 : List Value, Mid 126 B [(0, I a0), (1, h1), (4, .pointer (some ⟨b4, 0, none⟩)), (6, .pointer (some ⟨bq8_8_1, 0, none⟩))] (OwnS 3 1 v24 (y26.map cI) :: SS 22 3 1 cI v27 hs28 (y30) :: OwnS 3 1 v9 (y11.map cI) :: MS (fun k : Int × Int => .agg #[I k.1, I k.2]) 3 1 cI r13 hs15 (y14) :: OwnS 4 1 v16 (y18.map cB) :: MF (fun k : Int × Int => .agg #[I k.1, I k.2]) (fun x : Bool => .bool x) r20 (y21) :: Bx bq8_8_1 134 [I a0, v9, .map (some r13), v16, .map (some r20), .slice none 0 0, .bool false, v24, v27] :: Bx b4 52 [.slice none 0 0, .bool false, .slice none 0 0, .slice none 0 0] :: L) a w) ?_ ?_
      · obtain ⟨yq23_3_1, hkq23_3_2, hj31⟩ := bind_some hj31
        obtain ⟨yq23_5_1, hkq23_5_2, hj31⟩ := bind_some hj31
        refine TC.region_any (OwnS 3 1 v9 (y11.map cI) :: MS (fun k : Int × Int => .agg #[I k.1, I k.2]) 3 1 cI r13 hs15 (y14) :: OwnS 4 1 v16 (y18.map cB) :: MF (fun k : Int × Int => .agg #[I k.1, I k.2]) (fun x : Bool => .bool x) r20 (y21) :: Bx bq8_8_1 134 [I a0, v9, .map (some r13), v16, .map (some r20), .slice none 0 0, .bool false, .slice none 0 0, .slice none 0 0] :: Bx b4 52 [.slice none 0 0, .bool false, .slice none 0 0, .slice none 0 0] :: L) 9 14 kfollows_mixedOrders_true rfl ?_
        refine TA.takeW 0 rfl rfl rfl rfl (StepS.move rfl) (by kernel_rfl) (by kernel_rfl) (by kernel_rfl) rfl (.inr (fun _ s => s)) ?_
        refine TA.takeW 1 rfl rfl rfl rfl (StepS.move rfl) (by kernel_rfl) (by kernel_rfl) (by kernel_rfl) rfl (.inr (fun _ s => s)) ?_
        refine TA.takeW 2 rfl rfl rfl rfl (StepS.move rfl) (by kernel_rfl) (by kernel_rfl) (by kernel_rfl) rfl (.inr (fun _ s => s)) ?_
        refine TA.takeW 4 rfl rfl rfl rfl (StepS.move rfl) (by kernel_rfl) (by kernel_rfl) (by kernel_rfl) rfl (.inr (fun _ s => s)) ?_
        refine TA.all2 (i := 3) (j := 5) (by kernel_rfl) ?_ ?_
        · refine TB.of rfl ?_
          refine TO.mkS (f := cI) (za := 0) kelemB_22_3_1_8_true kinfo_3_bind_zero_some_I_0 rfl (by decide) rfl rfl hkq23_3_2 rfl fun vq23_3_3 => ?_
          refine TA.back (.inr (fun _ s => Sat.by [6, 6, 6, 6, 6, 6] 6 1 (by kernel_rfl) s)) ?_
          refine TA.asL (L' := (OwnS 3 1 vq23_3_3 (yq23_3_1.map cI) :: OwnS 3 1 v9 (y11.map cI) :: MS (fun k : Int × Int => .agg #[I k.1, I k.2]) 3 1 cI r13 hs15 (y14) :: OwnS 4 1 v16 (y18.map cB) :: MF (fun k : Int × Int => .agg #[I k.1, I k.2]) (fun x : Bool => .bool x) r20 (y21) :: Bx bq8_8_1 134 [I a0, v9, .map (some r13), v16, .map (some r20), .slice none 0 0, .bool false, .slice none 0 0, .slice none 0 0] :: Bx b4 52 [.slice none 0 0, .bool false, .slice none 0 0, .slice none 0 0] :: L)) (listed' := #[true, true, true, true, true, false, false, false, false, false, false, false, false, false]) (by kernel_rfl) (by kernel_rfl) ?_
          refine TA.takeW 6 rfl rfl rfl rfl (StepS.nilc rfl) (by kernel_rfl) (by kernel_rfl) (by kernel_rfl) rfl (.inr (fun _ s => Sat.by [6, 6, 6, 6, 6, 6] 6 1 (by kernel_rfl) s)) ?_
          refine TA.takeW 7 rfl rfl rfl rfl (StepS.fld rfl kfieldB_134_5_5_true) (by kernel_rfl) (by kernel_rfl) (by kernel_rfl) rfl (.inr (fun _ s => Sat.by [6, 6, 6, 6, 6, 6] 6 1 (by kernel_rfl) s)) ?_
          refine TA.takeW 8 rfl rfl rfl rfl (StepS.fld rfl kfieldB_52_2_2_true) (by kernel_rfl) (by kernel_rfl) (by kernel_rfl) rfl (.inr (fun _ s => Sat.by [6, 6, 6, 6, 6, 6] 6 1 (by kernel_rfl) s)) ?_
          refine TA.all2 (i := 5) (j := 9) (by kernel_rfl) ?_ ?_
          · refine TB.of rfl ?_
            refine TO.mkSSg (ee := 3) (sz := 1) (f := cI) kelemB_50_22_1_24_true kinfo_22_bind_zero_some_slice_none_0_0 rfl rfl hkq23_5_2 rfl fun vq23_5_3 hsq23_5_4 => ?_
            refine TA.back (.inr (fun _ s => Sat.by [7, 7, 7, 7, 7, 7] 6 2 (by kernel_rfl) s)) ?_
            refine TA.asL (L' := (SS 22 3 1 cI vq23_5_3 hsq23_5_4 (yq23_5_1) :: OwnS 3 1 vq23_3_3 (yq23_3_1.map cI) :: OwnS 3 1 v9 (y11.map cI) :: MS (fun k : Int × Int => .agg #[I k.1, I k.2]) 3 1 cI r13 hs15 (y14) :: OwnS 4 1 v16 (y18.map cB) :: MF (fun k : Int × Int => .agg #[I k.1, I k.2]) (fun x : Bool => .bool x) r20 (y21) :: Bx bq8_8_1 134 [I a0, v9, .map (some r13), v16, .map (some r20), .slice none 0 0, .bool false, .slice none 0 0, .slice none 0 0] :: Bx b4 52 [.slice none 0 0, .bool false, .slice none 0 0, .slice none 0 0] :: L)) (listed' := #[true, true, true, true, true, true, true, true, true, false, false, false, false, false]) (by kernel_rfl) (by kernel_rfl) ?_
            refine TA.all1 (i := 9) (by kernel_rfl) ?_
            refine TB.of rfl ?_
            refine TO.pure (fun _ s => Rd.one (OwnS.rd (Ent.at 1 rfl)) s) fun ocq23_9_1 => ?_
            refine TO.stB (us := [vq23_3_3]) 6 [I a0, v9, .map (some r13), v16, .map (some r20), .slice none 0 0, .bool false, vq23_3_3, .slice none 0 0] rfl rfl rfl ksizeB_22_1_true ocq23_9_1.2 rfl rfl (by intro u hu; simp only [List.mem_cons, List.not_mem_nil, or_false] at hu; rcases hu with rfl <;> first | exact ocq23_9_1.1 | rfl) rfl ?_
            refine TA.back (.inl (by kernel_rfl)) ?_
            refine TA.asL (L' := (SS 22 3 1 cI vq23_5_3 hsq23_5_4 (yq23_5_1) :: OwnS 3 1 vq23_3_3 (yq23_3_1.map cI) :: OwnS 3 1 v9 (y11.map cI) :: MS (fun k : Int × Int => .agg #[I k.1, I k.2]) 3 1 cI r13 hs15 (y14) :: OwnS 4 1 v16 (y18.map cB) :: MF (fun k : Int × Int => .agg #[I k.1, I k.2]) (fun x : Bool => .bool x) r20 (y21) :: Bx bq8_8_1 134 [I a0, v9, .map (some r13), v16, .map (some r20), .slice none 0 0, .bool false, vq23_3_3, .slice none 0 0] :: Bx b4 52 [.slice none 0 0, .bool false, .slice none 0 0, .slice none 0 0] :: L)) (listed' := #[true, true, true, true, true, true, true, true, true, true, false, false, false, false]) (by kernel_rfl) (by kernel_rfl) ?_
            refine TA.takeW 10 rfl rfl rfl rfl (StepS.nilc rfl) (by kernel_rfl) (by kernel_rfl) (by kernel_rfl) rfl (.inl (by kernel_rfl)) ?_
            refine TA.takeW 11 rfl rfl rfl rfl (StepS.fld rfl kfieldB_134_5_5_true) (by kernel_rfl) (by kernel_rfl) (by kernel_rfl) rfl (.inl (by kernel_rfl)) ?_
            refine TA.takeW 12 rfl rfl rfl rfl (StepS.fld rfl kfieldB_52_3_3_true) (by kernel_rfl) (by kernel_rfl) (by kernel_rfl) rfl (.inl (by kernel_rfl)) ?_
            refine TA.all1 (i := 13) (by kernel_rfl) ?_
            refine TB.of rfl ?_
            refine TO.pure (fun _ s => Rd.one (RR.top (SS.rr (Ent.at 0 rfl))) s) fun ocq23_13_1 => ?_
            refine TO.stB (us := [vq23_5_3]) 6 [I a0, v9, .map (some r13), v16, .map (some r20), .slice none 0 0, .bool false, vq23_3_3, vq23_5_3] rfl rfl rfl ksizeB_50_1_true ocq23_13_1.2 rfl rfl (by intro u hu; simp only [List.mem_cons, List.not_mem_nil, or_false] at hu; rcases hu with rfl <;> first | exact ocq23_13_1.1 | rfl) rfl ?_
            refine TA.back (.inl (by kernel_rfl)) ?_
            refine TA.asL (L' := (SS 22 3 1 cI vq23_5_3 hsq23_5_4 (yq23_5_1) :: OwnS 3 1 vq23_3_3 (yq23_3_1.map cI) :: OwnS 3 1 v9 (y11.map cI) :: MS (fun k : Int × Int => .agg #[I k.1, I k.2]) 3 1 cI r13 hs15 (y14) :: OwnS 4 1 v16 (y18.map cB) :: MF (fun k : Int × Int => .agg #[I k.1, I k.2]) (fun x : Bool => .bool x) r20 (y21) :: Bx bq8_8_1 134 [I a0, v9, .map (some r13), v16, .map (some r20), .slice none 0 0, .bool false, vq23_3_3, vq23_5_3] :: Bx b4 52 [.slice none 0 0, .bool false, .slice none 0 0, .slice none 0 0] :: L)) (listed' := #[true, true, true, true, true, true, true, true, true, true, true, true, true, true]) (by kernel_rfl) (by kernel_rfl) ?_
            cases hj31
            refine TA.nil (by kernel_rfl) fun a w e s => ?_
            exact ⟨vq23_3_3, vq23_5_3, hsq23_5_4, e.sub (lk_of_allIn ⟨rfl, rfl, rfl, rfl, trivial⟩), s.mono fun _ s => (by exact Sat.by [7, 7, 7, 7, 7, 7, 6, 7] 8 0 (by kernel_rfl) s)⟩
          · refine TB.of rfl ?_
            refine TO.pure (fun _ s => Rd.one (OwnS.rd (Ent.at 0 rfl)) s) fun ocq23_9_1 => ?_
            refine TO.stB (us := [vq23_3_3]) 5 [I a0, v9, .map (some r13), v16, .map (some r20), .slice none 0 0, .bool false, vq23_3_3, .slice none 0 0] rfl rfl rfl ksizeB_22_1_true ocq23_9_1.2 rfl rfl (by intro u hu; simp only [List.mem_cons, List.not_mem_nil, or_false] at hu; rcases hu with rfl <;> first | exact ocq23_9_1.1 | rfl) rfl ?_
            refine TA.back (.inl (by kernel_rfl)) ?_
            refine TA.asL (L' := (OwnS 3 1 vq23_3_3 (yq23_3_1.map cI) :: OwnS 3 1 v9 (y11.map cI) :: MS (fun k : Int × Int => .agg #[I k.1, I k.2]) 3 1 cI r13 hs15 (y14) :: OwnS 4 1 v16 (y18.map cB) :: MF (fun k : Int × Int => .agg #[I k.1, I k.2]) (fun x : Bool => .bool x) r20 (y21) :: Bx bq8_8_1 134 [I a0, v9, .map (some r13), v16, .map (some r20), .slice none 0 0, .bool false, vq23_3_3, .slice none 0 0] :: Bx b4 52 [.slice none 0 0, .bool false, .slice none 0 0, .slice none 0 0] :: L)) (listed' := #[true, true, true, true, true, false, true, true, true, true, false, false, false, false]) (by kernel_rfl) (by kernel_rfl) ?_
            refine TA.all1 (i := 5) (by kernel_rfl) ?_
            refine TB.of rfl ?_
            refine TO.mkSSg (ee := 3) (sz := 1) (f := cI) kelemB_50_22_1_24_true kinfo_22_bind_zero_some_slice_none_0_0 rfl rfl hkq23_5_2 rfl fun vq23_5_3 hsq23_5_4 => ?_
            refine TA.back (.inl (by kernel_rfl)) ?_
            refine TA.asL (L' := (SS 22 3 1 cI vq23_5_3 hsq23_5_4 (yq23_5_1) :: OwnS 3 1 vq23_3_3 (yq23_3_1.map cI) :: OwnS 3 1 v9 (y11.map cI) :: MS (fun k : Int × Int => .agg #[I k.1, I k.2]) 3 1 cI r13 hs15 (y14) :: OwnS 4 1 v16 (y18.map cB) :: MF (fun k : Int × Int => .agg #[I k.1, I k.2]) (fun x : Bool => .bool x) r20 (y21) :: Bx bq8_8_1 134 [I a0, v9, .map (some r13), v16, .map (some r20), .slice none 0 0, .bool false, vq23_3_3, .slice none 0 0] :: Bx b4 52 [.slice none 0 0, .bool false, .slice none 0 0, .slice none 0 0] :: L)) (listed' := #[true, true, true, true, true, true, true, true, true, true, false, false, false, false]) (by kernel_rfl) (by kernel_rfl) ?_
            refine TA.takeW 10 rfl rfl rfl rfl (StepS.nilc rfl) (by kernel_rfl) (by kernel_rfl) (by kernel_rfl) rfl (.inl (by kernel_rfl)) ?_
            refine TA.takeW 11 rfl rfl rfl rfl (StepS.fld rfl kfieldB_134_5_5_true) (by kernel_rfl) (by kernel_rfl) (by kernel_rfl) rfl (.inl (by kernel_rfl)) ?_
            refine TA.takeW 12 rfl rfl rfl rfl (StepS.fld rfl kfieldB_52_3_3_true) (by kernel_rfl) (by kernel_rfl) (by kernel_rfl) rfl (.inl (by kernel_rfl)) ?_
            refine TA.all1 (i := 13) (by kernel_rfl) ?_
            refine TB.of rfl ?_
            refine TO.pure (fun _ s => Rd.one (RR.top (SS.rr (Ent.at 0 rfl))) s) fun ocq23_13_1 => ?_
            refine TO.stB (us := [vq23_5_3]) 6 [I a0, v9, .map (some r13), v16, .map (some r20), .slice none 0 0, .bool false, vq23_3_3, vq23_5_3] rfl rfl rfl ksizeB_50_1_true ocq23_13_1.2 rfl rfl (by intro u hu; simp only [List.mem_cons, List.not_mem_nil, or_false] at hu; rcases hu with rfl <;> first | exact ocq23_13_1.1 | rfl) rfl ?_
            refine TA.back (.inl (by kernel_rfl)) ?_
            refine TA.asL (L' := (SS 22 3 1 cI vq23_5_3 hsq23_5_4 (yq23_5_1) :: OwnS 3 1 vq23_3_3 (yq23_3_1.map cI) :: OwnS 3 1 v9 (y11.map cI) :: MS (fun k : Int × Int => .agg #[I k.1, I k.2]) 3 1 cI r13 hs15 (y14) :: OwnS 4 1 v16 (y18.map cB) :: MF (fun k : Int × Int => .agg #[I k.1, I k.2]) (fun x : Bool => .bool x) r20 (y21) :: Bx bq8_8_1 134 [I a0, v9, .map (some r13), v16, .map (some r20), .slice none 0 0, .bool false, vq23_3_3, vq23_5_3] :: Bx b4 52 [.slice none 0 0, .bool false, .slice none 0 0, .slice none 0 0] :: L)) (listed' := #[true, true, true, true, true, true, true, true, true, true, true, true, true, true]) (by kernel_rfl) (by kernel_rfl) ?_
            cases hj31
            refine TA.nil (by kernel_rfl) fun a w e s => ?_
            exact ⟨vq23_3_3, vq23_5_3, hsq23_5_4, e.sub (lk_of_allIn ⟨rfl, rfl, rfl, rfl, trivial⟩), s.mono fun _ s => (by exact Sat.by [7, 7, 7, 7, 7, 7, 6, 7] 8 0 (by kernel_rfl) s)⟩
        · refine TB.of rfl ?_
          refine TO.mkSSg (ee := 3) (sz := 1) (f := cI) kelemB_50_22_1_24_true kinfo_22_bind_zero_some_slice_none_0_0 rfl rfl hkq23_5_2 rfl fun vq23_5_3 hsq23_5_4 => ?_
          refine TA.back (.inr (fun _ s => Sat.by [6, 6, 6, 6, 6, 6] 6 1 (by kernel_rfl) s)) ?_
          refine TA.asL (L' := (SS 22 3 1 cI vq23_5_3 hsq23_5_4 (yq23_5_1) :: OwnS 3 1 v9 (y11.map cI) :: MS (fun k : Int × Int => .agg #[I k.1, I k.2]) 3 1 cI r13 hs15 (y14) :: OwnS 4 1 v16 (y18.map cB) :: MF (fun k : Int × Int => .agg #[I k.1, I k.2]) (fun x : Bool => .bool x) r20 (y21) :: Bx bq8_8_1 134 [I a0, v9, .map (some r13), v16, .map (some r20), .slice none 0 0, .bool false, .slice none 0 0, .slice none 0 0] :: Bx b4 52 [.slice none 0 0, .bool false, .slice none 0 0, .slice none 0 0] :: L)) (listed' := #[true, true, true, false, true, true, false, false, false, false, false, false, false, false]) (by kernel_rfl) (by kernel_rfl) ?_
          refine TA.all1 (i := 3) (by kernel_rfl) ?_
          refine TB.of rfl ?_
          refine TO.mkS (f := cI) (za := 0) kelemB_22_3_1_8_true kinfo_3_bind_zero_some_I_0 rfl (by decide) rfl rfl hkq23_3_2 rfl fun vq23_3_3 => ?_
          refine TA.back (.inr (fun _ s => Sat.by [7, 7, 7, 7, 7, 7] 6 2 (by kernel_rfl) s)) ?_
          refine TA.asL (L' := (OwnS 3 1 vq23_3_3 (yq23_3_1.map cI) :: SS 22 3 1 cI vq23_5_3 hsq23_5_4 (yq23_5_1) :: OwnS 3 1 v9 (y11.map cI) :: MS (fun k : Int × Int => .agg #[I k.1, I k.2]) 3 1 cI r13 hs15 (y14) :: OwnS 4 1 v16 (y18.map cB) :: MF (fun k : Int × Int => .agg #[I k.1, I k.2]) (fun x : Bool => .bool x) r20 (y21) :: Bx bq8_8_1 134 [I a0, v9, .map (some r13), v16, .map (some r20), .slice none 0 0, .bool false, .slice none 0 0, .slice none 0 0] :: Bx b4 52 [.slice none 0 0, .bool false, .slice none 0 0, .slice none 0 0] :: L)) (listed' := #[true, true, true, true, true, true, false, false, false, false, false, false, false, false]) (by kernel_rfl) (by kernel_rfl) ?_
          refine TA.takeW 6 rfl rfl rfl rfl (StepS.nilc rfl) (by kernel_rfl) (by kernel_rfl) (by kernel_rfl) rfl (.inr (fun _ s => Sat.by [7, 7, 7, 7, 7, 7] 6 2 (by kernel_rfl) s)) ?_
          refine TA.takeW 7 rfl rfl rfl rfl (StepS.fld rfl kfieldB_134_5_5_true) (by kernel_rfl) (by kernel_rfl) (by kernel_rfl) rfl (.inr (fun _ s => Sat.by [7, 7, 7, 7, 7, 7] 6 2 (by kernel_rfl) s)) ?_
          refine TA.takeW 8 rfl rfl rfl rfl (StepS.fld rfl kfieldB_52_2_2_true) (by kernel_rfl) (by kernel_rfl) (by kernel_rfl) rfl (.inr (fun _ s => Sat.by [7, 7, 7, 7, 7, 7] 6 2 (by kernel_rfl) s)) ?_
          refine TA.all1 (i := 9) (by kernel_rfl) ?_
          refine TB.of rfl ?_
          refine TO.pure (fun _ s => Rd.one (OwnS.rd (Ent.at 0 rfl)) s) fun ocq23_9_1 => ?_
          refine TO.stB (us := [vq23_3_3]) 6 [I a0, v9, .map (some r13), v16, .map (some r20), .slice none 0 0, .bool false, vq23_3_3, .slice none 0 0] rfl rfl rfl ksizeB_22_1_true ocq23_9_1.2 rfl rfl (by intro u hu; simp only [List.mem_cons, List.not_mem_nil, or_false] at hu; rcases hu with rfl <;> first | exact ocq23_9_1.1 | rfl) rfl ?_
          refine TA.back (.inl (by kernel_rfl)) ?_
          refine TA.asL (L' := (OwnS 3 1 vq23_3_3 (yq23_3_1.map cI) :: SS 22 3 1 cI vq23_5_3 hsq23_5_4 (yq23_5_1) :: OwnS 3 1 v9 (y11.map cI) :: MS (fun k : Int × Int => .agg #[I k.1, I k.2]) 3 1 cI r13 hs15 (y14) :: OwnS 4 1 v16 (y18.map cB) :: MF (fun k : Int × Int => .agg #[I k.1, I k.2]) (fun x : Bool => .bool x) r20 (y21) :: Bx bq8_8_1 134 [I a0, v9, .map (some r13), v16, .map (some r20), .slice none 0 0, .bool false, vq23_3_3, .slice none 0 0] :: Bx b4 52 [.slice none 0 0, .bool false, .slice none 0 0, .slice none 0 0] :: L)) (listed' := #[true, true, true, true, true, true, true, true, true, true, false, false, false, false]) (by kernel_rfl) (by kernel_rfl) ?_
          refine TA.takeW 10 rfl rfl rfl rfl (StepS.nilc rfl) (by kernel_rfl) (by kernel_rfl) (by kernel_rfl) rfl (.inl (by kernel_rfl)) ?_
          refine TA.takeW 11 rfl rfl rfl rfl (StepS.fld rfl kfieldB_134_5_5_true) (by kernel_rfl) (by kernel_rfl) (by kernel_rfl) rfl (.inl (by kernel_rfl)) ?_
          refine TA.takeW 12 rfl rfl rfl rfl (StepS.fld rfl kfieldB_52_3_3_true) (by kernel_rfl) (by kernel_rfl) (by kernel_rfl) rfl (.inl (by kernel_rfl)) ?_
          refine TA.all1 (i := 13) (by kernel_rfl) ?_
          refine TB.of rfl ?_
          refine TO.pure (fun _ s => Rd.one (RR.top (SS.rr (Ent.at 1 rfl))) s) fun ocq23_13_1 => ?_
          refine TO.stB (us := [vq23_5_3]) 6 [I a0, v9, .map (some r13), v16, .map (some r20), .slice none 0 0, .bool false, vq23_3_3, vq23_5_3] rfl rfl rfl ksizeB_50_1_true ocq23_13_1.2 rfl rfl (by intro u hu; simp only [List.mem_cons, List.not_mem_nil, or_false] at hu; rcases hu with rfl <;> first | exact ocq23_13_1.1 | rfl) rfl ?_
          refine TA.back (.inl (by kernel_rfl)) ?_
          refine TA.asL (L' := (OwnS 3 1 vq23_3_3 (yq23_3_1.map cI) :: SS 22 3 1 cI vq23_5_3 hsq23_5_4 (yq23_5_1) :: OwnS 3 1 v9 (y11.map cI) :: MS (fun k : Int × Int => .agg #[I k.1, I k.2]) 3 1 cI r13 hs15 (y14) :: OwnS 4 1 v16 (y18.map cB) :: MF (fun k : Int × Int => .agg #[I k.1, I k.2]) (fun x : Bool => .bool x) r20 (y21) :: Bx bq8_8_1 134 [I a0, v9, .map (some r13), v16, .map (some r20), .slice none 0 0, .bool false, vq23_3_3, vq23_5_3] :: Bx b4 52 [.slice none 0 0, .bool false, .slice none 0 0, .slice none 0 0] :: L)) (listed' := #[true, true, true, true, true, true, true, true, true, true, true, true, true, true]) (by kernel_rfl) (by kernel_rfl) ?_
          cases hj31
          refine TA.nil (by kernel_rfl) fun a w e s => ?_
          exact ⟨vq23_3_3, vq23_5_3, hsq23_5_4, e.sub (lk_of_allIn ⟨rfl, rfl, rfl, rfl, trivial⟩), s⟩
      · intro a w ⟨v24, v27, hs28, he, hs⟩
        refine TC.use ?_ he hs
        refine TC.k ?_
        refine TC.k ?_
        refine TC.region ?_
        refine TO.s rfl rfl rfl (StepS.move rfl) ?_
        refine TO.s rfl rfl rfl (StepS.move rfl) ?_
        refine TO.code ?_
        obtain ⟨o43, hw44, hm⟩ := bind_some hm
        refine TC.loop hw44 (fun (y32, y34, x35) => fun a w => ∃ hs33 : List Value, Mid 126 B [(0, I a0), (1, h1), (4, .pointer (some ⟨b4, 0, none⟩)), (6, .pointer (some ⟨bq8_8_1, 0, none⟩)), (45, I a0), (46, I x35)] (OwnS 3 1 v24 (y26.map cI) :: SS 22 3 1 cI v27 hs33 (y32) :: OwnS 3 1 v9 (y34.map cI) :: MS (fun k : Int × Int => .agg #[I k.1, I k.2]) 3 1 cI r13 hs15 (y14) :: OwnS 4 1 v16 (y18.map cB) :: MF (fun k : Int × Int => .agg #[I k.1, I k.2]) (fun x : Bool => .bool x) r20 (y21) :: Bx bq8_8_1 134 [I a0, v9, .map (some r13), v16, .map (some r20), .slice none 0 0, .bool false, v24, v27] :: Bx b4 52 [.slice none 0 0, .bool false, .slice none 0 0, .slice none 0 0] :: L) a w) (fun (y40, y42) => fun a w => ∃ hs41 : List Value, Mid 126 B [(0, I a0), (1, h1), (4, .pointer (some ⟨b4, 0, none⟩)), (6, .pointer (some ⟨bq8_8_1, 0, none⟩))] (OwnS 3 1 v24 (y26.map cI) :: SS 22 3 1 cI v27 hs41 (y40) :: OwnS 3 1 v9 (y42.map cI) :: MS (fun k : Int × Int => .agg #[I k.1, I k.2]) 3 1 cI r13 hs15 (y14) :: OwnS 4 1 v16 (y18.map cB) :: MF (fun k : Int × Int => .agg #[I k.1, I k.2]) (fun x : Bool => .bool x) r20 (y21) :: Bx bq8_8_1 134 [I a0, v9, .map (some r13), v16, .map (some r20), .slice none 0 0, .bool false, v24, v27] :: Bx b4 52 [.slice none 0 0, .bool false, .slice none 0 0, .slice none 0 0] :: L) a w) (fun (_ : Unit) _ _ => False) ?_ ?_ ?_ ?_
        · rintro ⟨y32, y34, x35⟩ o43r hb45 a w ⟨hs33, he, hs⟩
          dsimp only [F26_L0] at hb45
          refine TC.use ?_ he hs
          refine TC.k ?_
          refine TC.region ?_
          refine TO.s rfl rfl rfl (StepS.cmp rfl rfl rfl) ?_
          refine TO.code ?_
          refine TC.k ?_
          refine TC.cond rfl (fun hc46 => ?_) (fun hc46 => ?_)
          · replace hb45 := cond_t hc46 hb45
            refine TC.skipk ?_
            refine TC.k ?_
            refine TC.block ?_
            refine TC.k ?_
            refine TC.region ?_
            refine TO.s rfl rfl rfl (StepS.move rfl) ?_
            refine TO.s rfl rfl rfl (StepS.assign rfl) ?_
            refine TO.code ?_
            refine TC.k ?_
            refine TC.region ?_
            refine TO.s rfl rfl rfl (StepS.move rfl) ?_
            refine TO.s rfl rfl rfl (StepS.nilc rfl) ?_
            refine TO.s rfl rfl rfl (StepS.fld rfl kfieldB_134_1_1_true) ?_
            refine TO.s rfl rfl rfl (StepS.ldB rfl (Ent.at 6 rfl) kscalB_22_true rfl) ?_
            refine TO.s rfl rfl rfl (StepS.move rfl) ?_
            obtain ⟨x47, hx48, hb45⟩ := bind_some hb45
            refine TO.s rfl rfl rfl (StepS.idx rfl rfl (OwnS.rd (Ent.at 2 rfl)) ksliceB_22_3_1_true (idx_spec hx48).1 (idxm_lt hx48)) ?_
            refine TO.stO (i := x35.toNat) (off := 0) (us := [I 100]) 2 100 rfl rfl rfl ksizeB_3_1_true rfl rfl rfl (idx_spec hx48).2 rfl (by simp [Value.oneCell']) rfl ?_
            refine TO.code ?_
            refine TC.region_any (OwnS 3 1 v24 (y26.map cI) :: SS 22 3 1 cI v27 hs33 (y32) :: OwnS 3 1 v9 ((y34.set x35.toNat 100).map cI) :: MS (fun k : Int × Int => .agg #[I k.1, I k.2]) 3 1 cI r13 hs15 (y14) :: OwnS 4 1 v16 (y18.map cB) :: MF (fun k : Int × Int => .agg #[I k.1, I k.2]) (fun x : Bool => .bool x) r20 (y21) :: Bx bq8_8_1 134 [I a0, v9, .map (some r13), v16, .map (some r20), .slice none 0 0, .bool false, v24, v27] :: Bx b4 52 [.slice none 0 0, .bool false, .slice none 0 0, .slice none 0 0] :: L) 9 10 kfollows_mixedOrders_true rfl ?_
            refine TA.takeW 0 rfl rfl rfl rfl (StepS.move rfl) (by kernel_rfl) (by kernel_rfl) (by kernel_rfl) rfl (.inr (fun _ s => s)) ?_
            refine TA.takeW 1 rfl rfl rfl rfl (StepS.nilc rfl) (by kernel_rfl) (by kernel_rfl) (by kernel_rfl) rfl (.inr (fun _ s => s)) ?_
            refine TA.takeW 2 rfl rfl rfl rfl (StepS.fld rfl kfieldB_134_5_5_true) (by kernel_rfl) (by kernel_rfl) (by kernel_rfl) rfl (.inr (fun _ s => s)) ?_
            refine TA.takeW 3 rfl rfl rfl rfl (StepS.fld rfl kfieldB_52_3_3_true) (by kernel_rfl) (by kernel_rfl) (by kernel_rfl) rfl (.inr (fun _ s => s)) ?_
            refine TA.take 4 rfl rfl rfl rfl (StepS.ldB rfl (Ent.at 6 rfl) kscalB_50_true rfl) (by kernel_rfl) (by kernel_rfl) (by kernel_rfl) (by kernel_rfl) (by kernel_rfl) (fun _ s => s) ?_
            refine TA.takeW 5 rfl rfl rfl rfl (StepS.move rfl) (by kernel_rfl) (by kernel_rfl) (by kernel_rfl) rfl (.inr (fun _ s => s)) ?_
            refine TA.takeW 6 rfl rfl rfl rfl (StepS.move rfl) (by kernel_rfl) (by kernel_rfl) (by kernel_rfl) rfl (.inr (fun _ s => s)) ?_
            refine TA.all1 (i := 7) (by kernel_rfl) ?_
            refine TB.of rfl ?_
            obtain ⟨yq49_7_1, hkq49_7_2, hb45⟩ := bind_some hb45
            refine TO.mkS (f := cI) (za := 0) kelemB_22_3_1_8_true kinfo_3_bind_zero_some_I_0 rfl (by decide) rfl rfl hkq49_7_2 rfl fun vq49_7_3 => ?_
            refine TA.back (.inr (fun _ s => Sat.by [8, 8, 8, 8, 8, 8, 8, 8] 8 1 (by kernel_rfl) s)) ?_
            refine TA.asL (L' := (OwnS 3 1 vq49_7_3 (yq49_7_1.map cI) :: OwnS 3 1 v24 (y26.map cI) :: SS 22 3 1 cI v27 hs33 (y32) :: OwnS 3 1 v9 ((y34.set x35.toNat 100).map cI) :: MS (fun k : Int × Int => .agg #[I k.1, I k.2]) 3 1 cI r13 hs15 (y14) :: OwnS 4 1 v16 (y18.map cB) :: MF (fun k : Int × Int => .agg #[I k.1, I k.2]) (fun x : Bool => .bool x) r20 (y21) :: Bx bq8_8_1 134 [I a0, v9, .map (some r13), v16, .map (some r20), .slice none 0 0, .bool false, v24, v27] :: Bx b4 52 [.slice none 0 0, .bool false, .slice none 0 0, .slice none 0 0] :: L)) (listed' := #[true, true, true, true, true, true, true, true, false, false]) (by kernel_rfl) (by kernel_rfl) ?_
            obtain ⟨xq49_8_1, hxq49_8_2, hb45⟩ := bind_some hb45
            refine TA.take 8 rfl rfl rfl rfl (StepS.idxRR rfl rfl (SS.rr (Ent.at 1 rfl)) ksliceB_50_22_1_true hxq49_8_2) (by kernel_rfl) (by kernel_rfl) (by kernel_rfl) (by kernel_rfl) (by kernel_rfl) (fun _ s => Sat.by [8, 8, 8, 8, 8, 8, 8, 8] 8 1 (by kernel_rfl) s) ?_
            refine TA.all1 (i := 9) (by kernel_rfl) ?_
            refine TB.of rfl ?_
            refine TO.ghost (fun _ s => Sat.front 2 rfl s) ?_
            refine TO.stRow (xs := yq49_7_1) rfl rfl hxq49_8_2 ksizeB_22_1_true ?_
            refine TA.back (.inl (by kernel_rfl)) ?_
            refine TA.asL (L' := (SS 22 3 1 cI v27 (hs33.set x35.toNat vq49_7_3) (y32.set x35.toNat yq49_7_1) :: OwnS 3 1 v24 (y26.map cI) :: OwnS 3 1 v9 ((y34.set x35.toNat 100).map cI) :: MS (fun k : Int × Int => .agg #[I k.1, I k.2]) 3 1 cI r13 hs15 (y14) :: OwnS 4 1 v16 (y18.map cB) :: MF (fun k : Int × Int => .agg #[I k.1, I k.2]) (fun x : Bool => .bool x) r20 (y21) :: Bx bq8_8_1 134 [I a0, v9, .map (some r13), v16, .map (some r20), .slice none 0 0, .bool false, v24, v27] :: Bx b4 52 [.slice none 0 0, .bool false, .slice none 0 0, .slice none 0 0] :: L)) (listed' := #[true, true, true, true, true, true, true, true, true, true]) (by kernel_rfl) (by kernel_rfl) ?_
            refine TA.code (by kernel_rfl) ?_
            refine TC.region ?_
            refine TO.s rfl rfl rfl (StepS.ari rfl rfl rfl) ?_
            refine TO.s rfl rfl rfl (StepS.move rfl) ?_
            cases hb45
            refine TO.nil fun a w e s => ?_
            exact ⟨(hs33.set x35.toNat vq49_7_3), e.sub (lk_of_allIn ⟨rfl, rfl, rfl, rfl, rfl, rfl, trivial⟩), s.mono fun _ s => (by exact Sat.by [7, 7, 7, 7, 7, 7, 6, 7] 8 0 (by kernel_rfl) s)⟩
          · replace hb45 := cond_f hc46 hb45
            cases hb45
            refine TC.exit rfl fun a w e s => ?_
            exact ⟨hs33, e.sub (lk_of_allIn ⟨rfl, rfl, rfl, rfl, trivial⟩), s⟩
        · exact fun a w e s => ⟨hs28, e.sub (lk_of_allIn ⟨rfl, rfl, rfl, rfl, rfl, rfl, trivial⟩), s⟩
        · rintro ⟨y40, y42⟩ rfl a w ⟨hs41, he, hs⟩
          dsimp only [Ctl.on] at hm
          refine TC.use ?_ he hs
          refine TC.k ?_
          refine TC.k ?_
          refine TC.region ?_
          refine TO.s rfl rfl rfl (StepS.move rfl) ?_
          refine TO.s rfl rfl rfl (StepS.lenm rfl e1.tl.tl.tl.tl.tl.tl.tl.tl ksliceB_23_106_4_true rfl) ?_
          refine TO.s rfl rfl rfl (StepS.move rfl) ?_
          refine TO.code ?_
          obtain ⟨o100, hw101, hm⟩ := bind_some hm
          refine TC.loop hw101 (fun (y52, y56, y59, y60, y61, y63, y64, x65, x66) => fun a w => ∃ r51 : Nat, ∃ hs53 : (Int × Int) → Value, ∃ r55 : Nat, ∃ v57 : Value, ∃ hs62 : List Value, Mid 126 B [(0, I a0), (4, .pointer (some ⟨b4, 0, none⟩)), (6, .pointer (some ⟨bq8_8_1, 0, none⟩)), (65, h1), (66, I (a1.length : Int)), (67, I x66)] (MS (fun k : Int × Int => .agg #[I k.1, I k.2]) 3 1 cI r51 hs53 (y52) :: MF (fun k : Int × Int => .agg #[I k.1, I k.2]) (fun x : Bool => .bool x) r55 (y56) :: OwnS 28 1 v57 (y59.map cI) :: OwnS 3 1 v24 (y60.map cI) :: SS 22 3 1 cI v27 hs62 (y61) :: OwnS 3 1 v9 (y63.map cI) :: OwnS 4 1 v16 (y64.map cB) :: Bx bq8_8_1 134 [I x65, v9, .map (some r51), v16, .map (some r55), v57, .bool false, v24, v27] :: Bx b4 52 [.slice none 0 0, .bool false, .slice none 0 0, .slice none 0 0] :: L) a w) (fun (y86, y90, y93, y94, y95, y97, y98, x99) => fun a w => ∃ r85 : Nat, ∃ hs87 : (Int × Int) → Value, ∃ r89 : Nat, ∃ v91 : Value, ∃ hs96 : List Value, Mid 126 B [(0, I a0), (4, .pointer (some ⟨b4, 0, none⟩)), (6, .pointer (some ⟨bq8_8_1, 0, none⟩))] (MS (fun k : Int × Int => .agg #[I k.1, I k.2]) 3 1 cI r85 hs87 (y86) :: MF (fun k : Int × Int => .agg #[I k.1, I k.2]) (fun x : Bool => .bool x) r89 (y90) :: OwnS 28 1 v91 (y93.map cI) :: OwnS 3 1 v24 (y94.map cI) :: SS 22 3 1 cI v27 hs96 (y95) :: OwnS 3 1 v9 (y97.map cI) :: OwnS 4 1 v16 (y98.map cB) :: Bx bq8_8_1 134 [I x99, v9, .map (some r85), v16, .map (some r89), v91, .bool false, v24, v27] :: Bx b4 52 [.slice none 0 0, .bool false, .slice none 0 0, .slice none 0 0] :: L) a w) (fun (_ : Unit) _ _ => False) ?_ ?_ ?_ ?_
          · rintro ⟨y52, y56, y59, y60, y61, y63, y64, x65, x66⟩ o100r hb102 a w ⟨r51, hs53, r55, v57, hs62, he, hs⟩
            dsimp only [F26_L1] at hb102
            refine TC.use ?_ he hs
            refine TC.k ?_
            refine TC.region ?_
            refine TO.s rfl rfl rfl (StepS.cmp rfl rfl rfl) ?_
            refine TO.code ?_
            refine TC.k ?_
            refine TC.cond rfl (fun hc103 => ?_) (fun hc103 => ?_)
            · replace hb102 := cond_t hc103 hb102
              refine TC.skipk ?_
              refine TC.k ?_
              refine TC.block ?_
              refine TC.k ?_
              refine TC.region ?_
              obtain ⟨x104, hx105, hb102⟩ := bind_some hb102
              refine TO.s rfl rfl rfl (StepS.idx rfl rfl e1.tl.tl.tl.tl.tl.tl.tl.tl.tl ksliceB_23_106_4_true (idx_spec hx105).1 (idxm_lt hx105)) ?_
              refine TO.s rfl rfl rfl (StepS.ldE rfl e1.tl.tl.tl.tl.tl.tl.tl.tl.tl kaggB_106_4_true rfl (idxm hx105)) ?_
              refine TO.alloc kinfo_106_bind_zero_some_agg_I_0_I_0_I_0_I_0 rfl rfl fun b106 => ?_
              refine TO.stB (us := [I x104.1, I x104.2.1, I x104.2.2.1, I x104.2.2.2]) 0 [I x104.1, I x104.2.1, I x104.2.2.1, I x104.2.2.2] rfl rfl rfl ksizeB_106_4_true rfl rfl rfl (by simp [Value.oneCell']) rfl ?_
              refine TO.code ?_
              obtain ⟨⟨y110, y114, y115, y117, y118, y120, y121, x122⟩, hj123, hb102⟩ := bind_some hb102
              first | refine TC.cutM (fun a w => ∃ r109 : Nat, ∃ hs111 : (Int × Int) → Value, ∃ r113 : Nat, ∃ v116 : Value, ∃ hs119 : List Value, Mid 126 B [(0, I a0), (4, .pointer (some ⟨b4, 0, none⟩)), (6, .pointer (some ⟨bq8_8_1, 0, none⟩)), (65, h1), (66, I (a1.length : Int)), (67, I x66)] (MS (fun k : Int × Int => .agg #[I k.1, I k.2]) 3 1 cI r109 hs111 (y110) :: MF (fun k : Int × Int => .agg #[I k.1, I k.2]) (fun x : Bool => .bool x) r113 (y114) :: Bx b106 106 [I x104.1, I x104.2.1, I x104.2.2.1, I x104.2.2.2] :: OwnS 28 1 v116 (y115.map cI) :: OwnS 3 1 v24 (y117.map cI) :: SS 22 3 1 cI v27 hs119 (y118) :: OwnS 3 1 v9 (y120.map cI) :: OwnS 4 1 v16 (y121.map cB) :: Bx bq8_8_1 134 [I x122, v9, .map (some r109), v16, .map (some r113), v116, .bool false, v24, v27] :: Bx b4 52 [.slice none 0 0, .bool false, .slice none 0 0, .slice none 0 0] :: L) a w) ?_ ?_ | refine TC.cutX (fun a w => ∃ r109 : Nat, ∃ hs111 : (Int × Int) → Value, ∃ r113 : Nat, ∃ v116 : Value, ∃ hs119 : List Value, Mid 126 B [(0, I a0), (4, .pointer (some ⟨b4, 0, none⟩)), (6, .pointer (some ⟨bq8_8_1, 0, none⟩)), (65, h1), (66, I (a1.length : Int)), (67, I x66)] (MS (fun k : Int × Int => .agg #[I k.1, I k.2]) 3 1 cI r109 hs111 (y110) :: MF (fun k : Int × Int => .agg #[I k.1, I k.2]) (fun x : Bool => .bool x) r113 (y114) :: Bx b106 106 [I x104.1, I x104.2.1, I x104.2.2.1, I x104.2.2.2] :: OwnS 28 1 v116 (y115.map cI) :: OwnS 3 1 v24 (y117.map cI) :: SS 22 3 1 cI v27 hs119 (y118) :: OwnS 3 1 v9 (y120.map cI) :: OwnS 4 1 v16 (y121.map cB) :: Bx bq8_8_1 134 [I x122, v9, .map (some r109), v16, .map (some r113), v116, .bool false, v24, v27] :: Bx b4 52 [.slice none 0 0, .bool false, .slice none 0 0, .slice none 0 0] :: L) a w) ?_ ?_
              · obtain ⟨⟨rq107_8_1, rq107_8_2⟩, hcq107_8_3, hj123⟩ := bind_some hj123
                obtain ⟨yq107_10_1, hkq107_10_2, hj123⟩ := bind_some hj123
                refine TC.region_any (Bx b106 106 [I x104.1, I x104.2.1, I x104.2.2.1, I x104.2.2.2] :: Bx b4 52 [.slice none 0 0, .bool false, .slice none 0 0, .slice none 0 0] :: L) 14 15 kfollows_mixedOrders_true rfl ?_
                refine TA.takeW 0 rfl rfl rfl rfl (StepS.move rfl) (by kernel_rfl) (by kernel_rfl) (by kernel_rfl) rfl (.inr (fun _ s => Sat.by [9, 1] 2 8 (by kernel_rfl) s)) ?_
                refine TA.takeW 1 rfl rfl rfl rfl (StepS.move rfl) (by kernel_rfl) (by kernel_rfl) (by kernel_rfl) rfl (.inr (fun _ s => Sat.by [9, 1] 2 8 (by kernel_rfl) s)) ?_
                refine TA.takeW 2 rfl rfl rfl rfl (StepS.nilc rfl) (by kernel_rfl) (by kernel_rfl) (by kernel_rfl) rfl (.inr (fun _ s => Sat.by [9, 1] 2 8 (by kernel_rfl) s)) ?_
                refine TA.takeW 3 rfl rfl rfl rfl (StepS.fld rfl kfieldB_134_5_5_true) (by kernel_rfl) (by kernel_rfl) (by kernel_rfl) rfl (.inr (fun _ s => Sat.by [9, 1] 2 8 (by kernel_rfl) s)) ?_
                refine TA.takeW 4 rfl rfl rfl rfl (StepS.fld rfl kfieldB_52_0_0_true) (by kernel_rfl) (by kernel_rfl) (by kernel_rfl) rfl (.inr (fun _ s => Sat.by [9, 1] 2 8 (by kernel_rfl) s)) ?_
                refine TA.takeW 6 rfl rfl rfl rfl (StepS.move rfl) (by kernel_rfl) (by kernel_rfl) (by kernel_rfl) rfl (.inr (fun _ s => Sat.by [9, 1] 2 8 (by kernel_rfl) s)) ?_
                refine TA.take 7 rfl rfl rfl rfl (StepS.ldBA rfl (Ent.at 0 rfl) kaggB_106_4_true rfl rfl) (by kernel_rfl) (by kernel_rfl) (by kernel_rfl) (by kernel_rfl) (by kernel_rfl) (fun _ s => Sat.by [9, 1] 2 8 (by kernel_rfl) s) ?_
                refine TA.all2 (i := 5) (j := 8) (by kernel_rfl) ?_ ?_
                · refine TB.of rfl ?_
                  refine TO.s rfl rfl rfl (StepS.ldB rfl (Ent.at 8 rfl) kscalB_24_true rfl) ?_
                  refine TA.back (.inr (fun _ s => Sat.by [9, 1] 2 8 (by kernel_rfl) s)) ?_
                  refine TA.asL (L' := (Bx b106 106 [I x104.1, I x104.2.1, I x104.2.2.1, I x104.2.2.2] :: MS (fun k : Int × Int => .agg #[I k.1, I k.2]) 3 1 cI r51 hs53 (y52) :: MF (fun k : Int × Int => .agg #[I k.1, I k.2]) (fun x : Bool => .bool x) r55 (y56) :: OwnS 28 1 v57 (y59.map cI) :: OwnS 3 1 v24 (y60.map cI) :: SS 22 3 1 cI v27 hs62 (y61) :: OwnS 3 1 v9 (y63.map cI) :: OwnS 4 1 v16 (y64.map cB) :: Bx bq8_8_1 134 [I x65, v9, .map (some r51), v16, .map (some r55), v57, .bool false, v24, v27] :: Bx b4 52 [.slice none 0 0, .bool false, .slice none 0 0, .slice none 0 0] :: L)) (listed' := #[true, true, true, true, true, true, true, true, false, false, false, false, false, false, false]) (by kernel_rfl) (by kernel_rfl) ?_
                  refine TA.all1 (i := 8) (by kernel_rfl) ?_
                  refine TB.of rfl ?_
                  refine TO.ghost (fun _ s => Sat.front 5 rfl s) ?_
                  refine TO.ghost (fun _ s => Sat.front 5 rfl s) ?_
                  refine TO.ghost (fun _ s => Sat.front 4 rfl s) ?_
                  refine TO.ghost (fun _ s => Sat.front 7 rfl s) ?_
                  refine TO.ghost (fun _ s => Sat.front 5 rfl s) ?_
                  refine TO.ghost (fun _ s => Sat.front 7 rfl s) ?_
                  refine TO.ghost (fun _ s => Sat.front 8 rfl s) ?_
                  refine TO.callO kcallB_59_true rfl rfl rfl (fun _ st => C59 (a0 := (x65, y63, y52, y64, y56, (y60, y61)))  hcq107_8_3 st) ?_
                  rintro _ _ ⟨rq107_8_5, hdq107_8_6, rq107_8_9, hsq107_8_12, rfl, rfl⟩
                  refine TA.back (.inr (fun _ s => Sat.by [9, 8] 2 8 (by kernel_rfl) s)) ?_
                  refine TA.asL (L' := (Bx bq8_8_1 134 [I rq107_8_2.1, v9, .map (some rq107_8_5), v16, .map (some rq107_8_9), v57, .bool false, v24, v27] :: OwnS 3 1 v9 (rq107_8_2.2.1.map cI) :: MS (fun k : Int × Int => .agg #[I k.1, I k.2]) 3 1 cI rq107_8_5 hdq107_8_6 (rq107_8_2.2.2.1) :: OwnS 4 1 v16 (rq107_8_2.2.2.2.1.map cB) :: MF (fun k : Int × Int => .agg #[I k.1, I k.2]) (fun x : Bool => .bool x) rq107_8_9 (rq107_8_2.2.2.2.2.1) :: OwnS 3 1 v24 (rq107_8_2.2.2.2.2.2.1.map cI) :: SS 22 3 1 cI v27 hsq107_8_12 (rq107_8_2.2.2.2.2.2.2) :: Bx b106 106 [I x104.1, I x104.2.1, I x104.2.2.1, I x104.2.2.2] :: OwnS 28 1 v57 (y59.map cI) :: Bx b4 52 [.slice none 0 0, .bool false, .slice none 0 0, .slice none 0 0] :: L)) (listed' := #[true, true, true, true, true, true, true, true, true, false, false, false, false, false, false]) (by kernel_rfl) (by kernel_rfl) ?_
                  refine TA.all1 (i := 9) (by kernel_rfl) ?_
                  refine TB.of rfl ?_
                  refine TO.litS (f := cI) ([rq107_8_1] : List Int) kelemB_24_28_1_8_true kinfo_28_bind_zero_some_I_0 rfl rfl (fun _ => rfl) rfl rfl (by kernel_rfl) rfl fun vq107_9_1 => ?_
                  refine TA.back (.inr (fun _ s => Sat.by [10, 9] 2 9 (by kernel_rfl) s)) ?_
                  refine TA.asL (L' := (OwnS 28 1 vq107_9_1 (([rq107_8_1] : List Int).map cI) :: Bx bq8_8_1 134 [I rq107_8_2.1, v9, .map (some rq107_8_5), v16, .map (some rq107_8_9), v57, .bool false, v24, v27] :: OwnS 3 1 v9 (rq107_8_2.2.1.map cI) :: MS (fun k : Int × Int => .agg #[I k.1, I k.2]) 3 1 cI rq107_8_5 hdq107_8_6 (rq107_8_2.2.2.1) :: OwnS 4 1 v16 (rq107_8_2.2.2.2.1.map cB) :: MF (fun k : Int × Int => .agg #[I k.1, I k.2]) (fun x : Bool => .bool x) rq107_8_9 (rq107_8_2.2.2.2.2.1) :: OwnS 3 1 v24 (rq107_8_2.2.2.2.2.2.1.map cI) :: SS 22 3 1 cI v27 hsq107_8_12 (rq107_8_2.2.2.2.2.2.2) :: Bx b106 106 [I x104.1, I x104.2.1, I x104.2.2.1, I x104.2.2.2] :: OwnS 28 1 v57 (y59.map cI) :: Bx b4 52 [.slice none 0 0, .bool false, .slice none 0 0, .slice none 0 0] :: L)) (listed' := #[true, true, true, true, true, true, true, true, true, true, false, false, false, false, false]) (by kernel_rfl) (by kernel_rfl) ?_
                  refine TA.all1 (i := 10) (by kernel_rfl) ?_
                  refine TB.of rfl ?_
                  refine TO.app (k := 9) (f := cI) kelemB_24_28_1_8_true (by decide) rfl rfl rfl (OwnS.rd (Ent.at 0 rfl)) hkq107_10_2 (fun x c hc => by simp [Value.oneCell'] at hc ⊢; first | (obtain rfl := hc; rfl) | (rcases hc with rfl <;> rfl)) rfl rfl fun vq107_10_3 => ?_
                  refine TA.back (.inr (fun _ s => Sat.by [10, 9] 2 9 (by kernel_rfl) s)) ?_
                  refine TA.asL (L' := (OwnS 28 1 vq107_9_1 (([rq107_8_1] : List Int).map cI) :: Bx bq8_8_1 134 [I rq107_8_2.1, v9, .map (some rq107_8_5), v16, .map (some rq107_8_9), v57, .bool false, v24, v27] :: OwnS 3 1 v9 (rq107_8_2.2.1.map cI) :: MS (fun k : Int × Int => .agg #[I k.1, I k.2]) 3 1 cI rq107_8_5 hdq107_8_6 (rq107_8_2.2.2.1) :: OwnS 4 1 v16 (rq107_8_2.2.2.2.1.map cB) :: MF (fun k : Int × Int => .agg #[I k.1, I k.2]) (fun x : Bool => .bool x) rq107_8_9 (rq107_8_2.2.2.2.2.1) :: OwnS 3 1 v24 (rq107_8_2.2.2.2.2.2.1.map cI) :: SS 22 3 1 cI v27 hsq107_8_12 (rq107_8_2.2.2.2.2.2.2) :: Bx b106 106 [I x104.1, I x104.2.1, I x104.2.2.1, I x104.2.2.2] :: OwnS 28 1 vq107_10_3 (yq107_10_1.map cI) :: Bx b4 52 [.slice none 0 0, .bool false, .slice none 0 0, .slice none 0 0] :: L)) (listed' := #[true, true, true, true, true, true, true, true, true, true, true, false, false, false, false]) (by kernel_rfl) (by kernel_rfl) ?_
                  refine TA.takeW 11 rfl rfl rfl rfl (StepS.nilc rfl) (by kernel_rfl) (by kernel_rfl) (by kernel_rfl) rfl (.inr (fun _ s => Sat.by [10, 9] 2 9 (by kernel_rfl) s)) ?_
                  refine TA.takeW 12 rfl rfl rfl rfl (StepS.fld rfl kfieldB_134_5_5_true) (by kernel_rfl) (by kernel_rfl) (by kernel_rfl) rfl (.inr (fun _ s => Sat.by [10, 9] 2 9 (by kernel_rfl) s)) ?_
                  refine TA.takeW 13 rfl rfl rfl rfl (StepS.fld rfl kfieldB_52_0_0_true) (by kernel_rfl) (by kernel_rfl) (by kernel_rfl) rfl (.inr (fun _ s => Sat.by [10, 9] 2 9 (by kernel_rfl) s)) ?_
                  refine TA.all1 (i := 14) (by kernel_rfl) ?_
                  refine TB.of rfl ?_
                  refine TO.pure (fun _ s => Rd.one (OwnS.rd (Ent.at 9 rfl)) s) fun ocq107_14_1 => ?_
                  refine TO.stB (us := [vq107_10_3]) 1 [I rq107_8_2.1, v9, .map (some rq107_8_5), v16, .map (some rq107_8_9), vq107_10_3, .bool false, v24, v27] rfl rfl rfl ksizeB_24_1_true ocq107_14_1.2 rfl rfl (by intro u hu; simp only [List.mem_cons, List.not_mem_nil, or_false] at hu; rcases hu with rfl <;> first | exact ocq107_14_1.1 | rfl) rfl ?_
                  refine TA.back (.inl (by kernel_rfl)) ?_
                  refine TA.asL (L' := (OwnS 28 1 vq107_9_1 (([rq107_8_1] : List Int).map cI) :: Bx bq8_8_1 134 [I rq107_8_2.1, v9, .map (some rq107_8_5), v16, .map (some rq107_8_9), vq107_10_3, .bool false, v24, v27] :: OwnS 3 1 v9 (rq107_8_2.2.1.map cI) :: MS (fun k : Int × Int => .agg #[I k.1, I k.2]) 3 1 cI rq107_8_5 hdq107_8_6 (rq107_8_2.2.2.1) :: OwnS 4 1 v16 (rq107_8_2.2.2.2.1.map cB) :: MF (fun k : Int × Int => .agg #[I k.1, I k.2]) (fun x : Bool => .bool x) rq107_8_9 (rq107_8_2.2.2.2.2.1) :: OwnS 3 1 v24 (rq107_8_2.2.2.2.2.2.1.map cI) :: SS 22 3 1 cI v27 hsq107_8_12 (rq107_8_2.2.2.2.2.2.2) :: Bx b106 106 [I x104.1, I x104.2.1, I x104.2.2.1, I x104.2.2.2] :: OwnS 28 1 vq107_10_3 (yq107_10_1.map cI) :: Bx b4 52 [.slice none 0 0, .bool false, .slice none 0 0, .slice none 0 0] :: L)) (listed' := #[true, true, true, true, true, true, true, true, true, true, true, true, true, true, true]) (by kernel_rfl) (by kernel_rfl) ?_
                  cases hj123
                  refine TA.nil (by kernel_rfl) fun a w e s => ?_
                  exact ⟨rq107_8_5, hdq107_8_6, rq107_8_9, vq107_10_3, hsq107_8_12, e.sub (lk_of_allIn ⟨rfl, rfl, rfl, rfl, rfl, rfl, trivial⟩), s.mono fun _ s => (by exact Sat.by [10, 2, 5, 4, 8, 8, 10, 10, 10, 10] 10 1 (by kernel_rfl) s)⟩
                · refine TB.of rfl ?_
                  refine TO.ghost (fun _ s => Sat.front 5 rfl s) ?_
                  refine TO.ghost (fun _ s => Sat.front 5 rfl s) ?_
                  refine TO.ghost (fun _ s => Sat.front 4 rfl s) ?_
                  refine TO.ghost (fun _ s => Sat.front 7 rfl s) ?_
                  refine TO.ghost (fun _ s => Sat.front 5 rfl s) ?_
                  refine TO.ghost (fun _ s => Sat.front 7 rfl s) ?_
                  refine TO.ghost (fun _ s => Sat.front 8 rfl s) ?_
                  refine TO.callO kcallB_59_true rfl rfl rfl (fun _ st => C59 (a0 := (x65, y63, y52, y64, y56, (y60, y61)))  hcq107_8_3 st) ?_
                  rintro _ _ ⟨rq107_8_5, hdq107_8_6, rq107_8_9, hsq107_8_12, rfl, rfl⟩
                  refine TA.back (.inr (fun _ s => Sat.by [9, 8] 2 8 (by kernel_rfl) s)) ?_
                  refine TA.asL (L' := (Bx bq8_8_1 134 [I rq107_8_2.1, v9, .map (some rq107_8_5), v16, .map (some rq107_8_9), v57, .bool false, v24, v27] :: OwnS 3 1 v9 (rq107_8_2.2.1.map cI) :: MS (fun k : Int × Int => .agg #[I k.1, I k.2]) 3 1 cI rq107_8_5 hdq107_8_6 (rq107_8_2.2.2.1) :: OwnS 4 1 v16 (rq107_8_2.2.2.2.1.map cB) :: MF (fun k : Int × Int => .agg #[I k.1, I k.2]) (fun x : Bool => .bool x) rq107_8_9 (rq107_8_2.2.2.2.2.1) :: OwnS 3 1 v24 (rq107_8_2.2.2.2.2.2.1.map cI) :: SS 22 3 1 cI v27 hsq107_8_12 (rq107_8_2.2.2.2.2.2.2) :: Bx b106 106 [I x104.1, I x104.2.1, I x104.2.2.1, I x104.2.2.2] :: OwnS 28 1 v57 (y59.map cI) :: Bx b4 52 [.slice none 0 0, .bool false, .slice none 0 0, .slice none 0 0] :: L)) (listed' := #[true, true, true, true, true, false, true, true, true, false, false, false, false, false, false]) (by kernel_rfl) (by kernel_rfl) ?_
                  refine TA.all2 (i := 5) (j := 9) (by kernel_rfl) ?_ ?_
                  · refine TB.of rfl ?_
                    refine TO.s rfl rfl rfl (StepS.ldB rfl (Ent.at 0 rfl) kscalB_24_true rfl) ?_
                    refine TA.back (.inr (fun _ s => Sat.by [9, 8] 2 8 (by kernel_rfl) s)) ?_
                    refine TA.asL (L' := (Bx bq8_8_1 134 [I rq107_8_2.1, v9, .map (some rq107_8_5), v16, .map (some rq107_8_9), v57, .bool false, v24, v27] :: OwnS 3 1 v9 (rq107_8_2.2.1.map cI) :: MS (fun k : Int × Int => .agg #[I k.1, I k.2]) 3 1 cI rq107_8_5 hdq107_8_6 (rq107_8_2.2.2.1) :: OwnS 4 1 v16 (rq107_8_2.2.2.2.1.map cB) :: MF (fun k : Int × Int => .agg #[I k.1, I k.2]) (fun x : Bool => .bool x) rq107_8_9 (rq107_8_2.2.2.2.2.1) :: OwnS 3 1 v24 (rq107_8_2.2.2.2.2.2.1.map cI) :: SS 22 3 1 cI v27 hsq107_8_12 (rq107_8_2.2.2.2.2.2.2) :: Bx b106 106 [I x104.1, I x104.2.1, I x104.2.2.1, I x104.2.2.2] :: OwnS 28 1 v57 (y59.map cI) :: Bx b4 52 [.slice none 0 0, .bool false, .slice none 0 0, .slice none 0 0] :: L)) (listed' := #[true, true, true, true, true, true, true, true, true, false, false, false, false, false, false]) (by kernel_rfl) (by kernel_rfl) ?_
                    refine TA.all1 (i := 9) (by kernel_rfl) ?_
                    refine TB.of rfl ?_
                    refine TO.litS (f := cI) ([rq107_8_1] : List Int) kelemB_24_28_1_8_true kinfo_28_bind_zero_some_I_0 rfl rfl (fun _ => rfl) rfl rfl (by kernel_rfl) rfl fun vq107_9_1 => ?_
                    refine TA.back (.inr (fun _ s => Sat.by [10, 9] 2 9 (by kernel_rfl) s)) ?_
                    refine TA.asL (L' := (OwnS 28 1 vq107_9_1 (([rq107_8_1] : List Int).map cI) :: Bx bq8_8_1 134 [I rq107_8_2.1, v9, .map (some rq107_8_5), v16, .map (some rq107_8_9), v57, .bool false, v24, v27] :: OwnS 3 1 v9 (rq107_8_2.2.1.map cI) :: MS (fun k : Int × Int => .agg #[I k.1, I k.2]) 3 1 cI rq107_8_5 hdq107_8_6 (rq107_8_2.2.2.1) :: OwnS 4 1 v16 (rq107_8_2.2.2.2.1.map cB) :: MF (fun k : Int × Int => .agg #[I k.1, I k.2]) (fun x : Bool => .bool x) rq107_8_9 (rq107_8_2.2.2.2.2.1) :: OwnS 3 1 v24 (rq107_8_2.2.2.2.2.2.1.map cI) :: SS 22 3 1 cI v27 hsq107_8_12 (rq107_8_2.2.2.2.2.2.2) :: Bx b106 106 [I x104.1, I x104.2.1, I x104.2.2.1, I x104.2.2.2] :: OwnS 28 1 v57 (y59.map cI) :: Bx b4 52 [.slice none 0 0, .bool false, .slice none 0 0, .slice none 0 0] :: L)) (listed' := #[true, true, true, true, true, true, true, true, true, true, false, false, false, false, false]) (by kernel_rfl) (by kernel_rfl) ?_
                    refine TA.all1 (i := 10) (by kernel_rfl) ?_
                    refine TB.of rfl ?_
                    refine TO.app (k := 9) (f := cI) kelemB_24_28_1_8_true (by decide) rfl rfl rfl (OwnS.rd (Ent.at 0 rfl)) hkq107_10_2 (fun x c hc => by simp [Value.oneCell'] at hc ⊢; first | (obtain rfl := hc; rfl) | (rcases hc with rfl <;> rfl)) rfl rfl fun vq107_10_3 => ?_
                    refine TA.back (.inr (fun _ s => Sat.by [10, 9] 2 9 (by kernel_rfl) s)) ?_
                    refine TA.asL (L' := (OwnS 28 1 vq107_9_1 (([rq107_8_1] : List Int).map cI) :: Bx bq8_8_1 134 [I rq107_8_2.1, v9, .map (some rq107_8_5), v16, .map (some rq107_8_9), v57, .bool false, v24, v27] :: OwnS 3 1 v9 (rq107_8_2.2.1.map cI) :: MS (fun k : Int × Int => .agg #[I k.1, I k.2]) 3 1 cI rq107_8_5 hdq107_8_6 (rq107_8_2.2.2.1) :: OwnS 4 1 v16 (rq107_8_2.2.2.2.1.map cB) :: MF (fun k : Int × Int => .agg #[I k.1, I k.2]) (fun x : Bool => .bool x) rq107_8_9 (rq107_8_2.2.2.2.2.1) :: OwnS 3 1 v24 (rq107_8_2.2.2.2.2.2.1.map cI) :: SS 22 3 1 cI v27 hsq107_8_12 (rq107_8_2.2.2.2.2.2.2) :: Bx b106 106 [I x104.1, I x104.2.1, I x104.2.2.1, I x104.2.2.2] :: OwnS 28 1 vq107_10_3 (yq107_10_1.map cI) :: Bx b4 52 [.slice none 0 0, .bool false, .slice none 0 0, .slice none 0 0] :: L)) (listed' := #[true, true, true, true, true, true, true, true, true, true, true, false, false, false, false]) (by kernel_rfl) (by kernel_rfl) ?_
                    refine TA.takeW 11 rfl rfl rfl rfl (StepS.nilc rfl) (by kernel_rfl) (by kernel_rfl) (by kernel_rfl) rfl (.inr (fun _ s => Sat.by [10, 9] 2 9 (by kernel_rfl) s)) ?_
                    refine TA.takeW 12 rfl rfl rfl rfl (StepS.fld rfl kfieldB_134_5_5_true) (by kernel_rfl) (by kernel_rfl) (by kernel_rfl) rfl (.inr (fun _ s => Sat.by [10, 9] 2 9 (by kernel_rfl) s)) ?_
                    refine TA.takeW 13 rfl rfl rfl rfl (StepS.fld rfl kfieldB_52_0_0_true) (by kernel_rfl) (by kernel_rfl) (by kernel_rfl) rfl (.inr (fun _ s => Sat.by [10, 9] 2 9 (by kernel_rfl) s)) ?_
                    refine TA.all1 (i := 14) (by kernel_rfl) ?_
                    refine TB.of rfl ?_
                    refine TO.pure (fun _ s => Rd.one (OwnS.rd (Ent.at 9 rfl)) s) fun ocq107_14_1 => ?_
                    refine TO.stB (us := [vq107_10_3]) 1 [I rq107_8_2.1, v9, .map (some rq107_8_5), v16, .map (some rq107_8_9), vq107_10_3, .bool false, v24, v27] rfl rfl rfl ksizeB_24_1_true ocq107_14_1.2 rfl rfl (by intro u hu; simp only [List.mem_cons, List.not_mem_nil, or_false] at hu; rcases hu with rfl <;> first | exact ocq107_14_1.1 | rfl) rfl ?_
                    refine TA.back (.inl (by kernel_rfl)) ?_
                    refine TA.asL (L' := (OwnS 28 1 vq107_9_1 (([rq107_8_1] : List Int).map cI) :: Bx bq8_8_1 134 [I rq107_8_2.1, v9, .map (some rq107_8_5), v16, .map (some rq107_8_9), vq107_10_3, .bool false, v24, v27] :: OwnS 3 1 v9 (rq107_8_2.2.1.map cI) :: MS (fun k : Int × Int => .agg #[I k.1, I k.2]) 3 1 cI rq107_8_5 hdq107_8_6 (rq107_8_2.2.2.1) :: OwnS 4 1 v16 (rq107_8_2.2.2.2.1.map cB) :: MF (fun k : Int × Int => .agg #[I k.1, I k.2]) (fun x : Bool => .bool x) rq107_8_9 (rq107_8_2.2.2.2.2.1) :: OwnS 3 1 v24 (rq107_8_2.2.2.2.2.2.1.map cI) :: SS 22 3 1 cI v27 hsq107_8_12 (rq107_8_2.2.2.2.2.2.2) :: Bx b106 106 [I x104.1, I x104.2.1, I x104.2.2.1, I x104.2.2.2] :: OwnS 28 1 vq107_10_3 (yq107_10_1.map cI) :: Bx b4 52 [.slice none 0 0, .bool false, .slice none 0 0, .slice none 0 0] :: L)) (listed' := #[true, true, true, true, true, true, true, true, true, true, true, true, true, true, true]) (by kernel_rfl) (by kernel_rfl) ?_
                    cases hj123
                    refine TA.nil (by kernel_rfl) fun a w e s => ?_
                    exact ⟨rq107_8_5, hdq107_8_6, rq107_8_9, vq107_10_3, hsq107_8_12, e.sub (lk_of_allIn ⟨rfl, rfl, rfl, rfl, rfl, rfl, trivial⟩), s.mono fun _ s => (by exact Sat.by [10, 2, 5, 4, 8, 8, 10, 10, 10, 10] 10 1 (by kernel_rfl) s)⟩
                  · refine TB.of rfl ?_
                    refine TO.litS (f := cI) ([rq107_8_1] : List Int) kelemB_24_28_1_8_true kinfo_28_bind_zero_some_I_0 rfl rfl (fun _ => rfl) rfl rfl (by kernel_rfl) rfl fun vq107_9_1 => ?_
                    refine TA.back (.inr (fun _ s => Sat.by [10, 9] 2 9 (by kernel_rfl) s)) ?_
                    refine TA.asL (L' := (OwnS 28 1 vq107_9_1 (([rq107_8_1] : List Int).map cI) :: Bx bq8_8_1 134 [I rq107_8_2.1, v9, .map (some rq107_8_5), v16, .map (some rq107_8_9), v57, .bool false, v24, v27] :: OwnS 3 1 v9 (rq107_8_2.2.1.map cI) :: MS (fun k : Int × Int => .agg #[I k.1, I k.2]) 3 1 cI rq107_8_5 hdq107_8_6 (rq107_8_2.2.2.1) :: OwnS 4 1 v16 (rq107_8_2.2.2.2.1.map cB) :: MF (fun k : Int × Int => .agg #[I k.1, I k.2]) (fun x : Bool => .bool x) rq107_8_9 (rq107_8_2.2.2.2.2.1) :: OwnS 3 1 v24 (rq107_8_2.2.2.2.2.2.1.map cI) :: SS 22 3 1 cI v27 hsq107_8_12 (rq107_8_2.2.2.2.2.2.2) :: Bx b106 106 [I x104.1, I x104.2.1, I x104.2.2.1, I x104.2.2.2] :: OwnS 28 1 v57 (y59.map cI) :: Bx b4 52 [.slice none 0 0, .bool false, .slice none 0 0, .slice none 0 0] :: L)) (listed' := #[true, true, true, true, true, false, true, true, true, true, false, false, false, false, false]) (by kernel_rfl) (by kernel_rfl) ?_
                    refine TA.all1 (i := 5) (by kernel_rfl) ?_
                    refine TB.of rfl ?_
                    refine TO.s rfl rfl rfl (StepS.ldB rfl (Ent.at 1 rfl) kscalB_24_true rfl) ?_
                    refine TA.back (.inr (fun _ s => Sat.by [10, 9] 2 9 (by kernel_rfl) s)) ?_
                    refine TA.asL (L' := (OwnS 28 1 vq107_9_1 (([rq107_8_1] : List Int).map cI) :: Bx bq8_8_1 134 [I rq107_8_2.1, v9, .map (some rq107_8_5), v16, .map (some rq107_8_9), v57, .bool false, v24, v27] :: OwnS 3 1 v9 (rq107_8_2.2.1.map cI) :: MS (fun k : Int × Int => .agg #[I k.1, I k.2]) 3 1 cI rq107_8_5 hdq107_8_6 (rq107_8_2.2.2.1) :: OwnS 4 1 v16 (rq107_8_2.2.2.2.1.map cB) :: MF (fun k : Int × Int => .agg #[I k.1, I k.2]) (fun x : Bool => .bool x) rq107_8_9 (rq107_8_2.2.2.2.2.1) :: OwnS 3 1 v24 (rq107_8_2.2.2.2.2.2.1.map cI) :: SS 22 3 1 cI v27 hsq107_8_12 (rq107_8_2.2.2.2.2.2.2) :: Bx b106 106 [I x104.1, I x104.2.1, I x104.2.2.1, I x104.2.2.2] :: OwnS 28 1 v57 (y59.map cI) :: Bx b4 52 [.slice none 0 0, .bool false, .slice none 0 0, .slice none 0 0] :: L)) (listed' := #[true, true, true, true, true, true, true, true, true, true, false, false, false, false, false]) (by kernel_rfl) (by kernel_rfl) ?_
                    refine TA.all1 (i := 10) (by kernel_rfl) ?_
                    refine TB.of rfl ?_
                    refine TO.app (k := 9) (f := cI) kelemB_24_28_1_8_true (by decide) rfl rfl rfl (OwnS.rd (Ent.at 0 rfl)) hkq107_10_2 (fun x c hc => by simp [Value.oneCell'] at hc ⊢; first | (obtain rfl := hc; rfl) | (rcases hc with rfl <;> rfl)) rfl rfl fun vq107_10_3 => ?_
                    refine TA.back (.inr (fun _ s => Sat.by [10, 9] 2 9 (by kernel_rfl) s)) ?_
                    refine TA.asL (L' := (OwnS 28 1 vq107_9_1 (([rq107_8_1] : List Int).map cI) :: Bx bq8_8_1 134 [I rq107_8_2.1, v9, .map (some rq107_8_5), v16, .map (some rq107_8_9), v57, .bool false, v24, v27] :: OwnS 3 1 v9 (rq107_8_2.2.1.map cI) :: MS (fun k : Int × Int => .agg #[I k.1, I k.2]) 3 1 cI rq107_8_5 hdq107_8_6 (rq107_8_2.2.2.1) :: OwnS 4 1 v16 (rq107_8_2.2.2.2.1.map cB) :: MF (fun k : Int × Int => .agg #[I k.1, I k.2]) (fun x : Bool => .bool x) rq107_8_9 (rq107_8_2.2.2.2.2.1) :: OwnS 3 1 v24 (rq107_8_2.2.2.2.2.2.1.map cI) :: SS 22 3 1 cI v27 hsq107_8_12 (rq107_8_2.2.2.2.2.2.2) :: Bx b106 106 [I x104.1, I x104.2.1, I x104.2.2.1, I x104.2.2.2] :: OwnS 28 1 vq107_10_3 (yq107_10_1.map cI) :: Bx b4 52 [.slice none 0 0, .bool false, .slice none 0 0, .slice none 0 0] :: L)) (listed' := #[true, true, true, true, true, true, true, true, true, true, true, false, false, false, false]) (by kernel_rfl) (by kernel_rfl) ?_
                    refine TA.takeW 11 rfl rfl rfl rfl (StepS.nilc rfl) (by kernel_rfl) (by kernel_rfl) (by kernel_rfl) rfl (.inr (fun _ s => Sat.by [10, 9] 2 9 (by kernel_rfl) s)) ?_
                    refine TA.takeW 12 rfl rfl rfl rfl (StepS.fld rfl kfieldB_134_5_5_true) (by kernel_rfl) (by kernel_rfl) (by kernel_rfl) rfl (.inr (fun _ s => Sat.by [10, 9] 2 9 (by kernel_rfl) s)) ?_
                    refine TA.takeW 13 rfl rfl rfl rfl (StepS.fld rfl kfieldB_52_0_0_true) (by kernel_rfl) (by kernel_rfl) (by kernel_rfl) rfl (.inr (fun _ s => Sat.by [10, 9] 2 9 (by kernel_rfl) s)) ?_
                    refine TA.all1 (i := 14) (by kernel_rfl) ?_
                    refine TB.of rfl ?_
                    refine TO.pure (fun _ s => Rd.one (OwnS.rd (Ent.at 9 rfl)) s) fun ocq107_14_1 => ?_
                    refine TO.stB (us := [vq107_10_3]) 1 [I rq107_8_2.1, v9, .map (some rq107_8_5), v16, .map (some rq107_8_9), vq107_10_3, .bool false, v24, v27] rfl rfl rfl ksizeB_24_1_true ocq107_14_1.2 rfl rfl (by intro u hu; simp only [List.mem_cons, List.not_mem_nil, or_false] at hu; rcases hu with rfl <;> first | exact ocq107_14_1.1 | rfl) rfl ?_
                    refine TA.back (.inl (by kernel_rfl)) ?_
                    refine TA.asL (L' := (OwnS 28 1 vq107_9_1 (([rq107_8_1] : List Int).map cI) :: Bx bq8_8_1 134 [I rq107_8_2.1, v9, .map (some rq107_8_5), v16, .map (some rq107_8_9), vq107_10_3, .bool false, v24, v27] :: OwnS 3 1 v9 (rq107_8_2.2.1.map cI) :: MS (fun k : Int × Int => .agg #[I k.1, I k.2]) 3 1 cI rq107_8_5 hdq107_8_6 (rq107_8_2.2.2.1) :: OwnS 4 1 v16 (rq107_8_2.2.2.2.1.map cB) :: MF (fun k : Int × Int => .agg #[I k.1, I k.2]) (fun x : Bool => .bool x) rq107_8_9 (rq107_8_2.2.2.2.2.1) :: OwnS 3 1 v24 (rq107_8_2.2.2.2.2.2.1.map cI) :: SS 22 3 1 cI v27 hsq107_8_12 (rq107_8_2.2.2.2.2.2.2) :: Bx b106 106 [I x104.1, I x104.2.1, I x104.2.2.1, I x104.2.2.2] :: OwnS 28 1 vq107_10_3 (yq107_10_1.map cI) :: Bx b4 52 [.slice none 0 0, .bool false, .slice none 0 0, .slice none 0 0] :: L)) (listed' := #[true, true, true, true, true, true, true, true, true, true, true, true, true, true, true]) (by kernel_rfl) (by kernel_rfl) ?_
                    cases hj123
                    refine TA.nil (by kernel_rfl) fun a w e s => ?_
                    exact ⟨rq107_8_5, hdq107_8_6, rq107_8_9, vq107_10_3, hsq107_8_12, e.sub (lk_of_allIn ⟨rfl, rfl, rfl, rfl, rfl, rfl, trivial⟩), s.mono fun _ s => (by exact Sat.by [10, 2, 5, 4, 8, 8, 10, 10, 10, 10] 10 1 (by kernel_rfl) s)⟩
              · intro a w ⟨r109, hs111, r113, v116, hs119, he, hs⟩
                refine TC.use ?_ he hs
                refine TC.region ?_
                refine TO.s rfl rfl rfl (StepS.ari rfl rfl rfl) ?_
                refine TO.s rfl rfl rfl (StepS.move rfl) ?_
                cases hb102
                refine TO.nil fun a w e s => ?_
                exact ⟨r109, hs111, r113, v116, hs119, e.sub (lk_of_allIn ⟨rfl, rfl, rfl, rfl, rfl, rfl, trivial⟩), s.mono fun _ s => (by exact Sat.by [9, 9, 9, 9, 9, 9, 9, 8, 8] 9 1 (by kernel_rfl) s)⟩
            · replace hb102 := cond_f hc103 hb102
              cases hb102
              refine TC.exit rfl fun a w e s => ?_
              exact ⟨r51, hs53, r55, v57, hs62, e.sub (lk_of_allIn ⟨rfl, rfl, rfl, trivial⟩), s⟩
          · exact fun a w e s => ⟨r13, hs15, r20, .slice none 0 0, hs41, e.sub (lk_of_allIn ⟨rfl, rfl, rfl, rfl, rfl, rfl, trivial⟩), s.mono fun _ s => (by replace s := Sat.nilS (e := 28) (sz := 1) (f := cI) s; exact Sat.by [8, 8, 7, 6, 6, 6, 6, 8, 8] 9 0 (by kernel_rfl) s)⟩
          · rintro ⟨y86, y90, y93, y94, y95, y97, y98, x99⟩ rfl a w ⟨r85, hs87, r89, v91, hs96, he, hs⟩
            dsimp only [Ctl.on] at hm
            refine TC.use ?_ he hs
            refine TC.k ?_
            refine TC.region ?_
            refine TO.s rfl rfl rfl (StepS.move rfl) ?_
            refine TO.s rfl rfl rfl (StepS.move rfl) ?_
            refine TO.s rfl rfl rfl (StepS.nilc rfl) ?_
            refine TO.s rfl rfl rfl (StepS.fld rfl kfieldB_134_4_4_true) ?_
            refine TO.s rfl rfl rfl (StepS.ldB rfl (Ent.at 7 rfl) kscalB_132_true rfl) ?_
            refine TO.s rfl rfl rfl (StepS.lenF rfl (Ent.at 1 rfl) kmapGB_132_114_4_true rfl) ?_
            refine TO.s rfl rfl rfl (StepS.move rfl) ?_
            refine TO.s rfl rfl rfl (StepS.move rfl) ?_
            refine TO.s rfl rfl rfl (StepS.ari rfl rfl rfl) ?_
            refine TO.s rfl rfl rfl (StepS.ari rfl rfl rfl) ?_
            refine TO.s rfl rfl rfl (StepS.cmp rfl rfl rfl) ?_
            refine TO.s rfl rfl rfl (StepS.nilc rfl) ?_
            refine TO.s rfl rfl rfl (StepS.fld rfl kfieldB_134_5_5_true) ?_
            refine TO.s rfl rfl rfl (StepS.fld rfl kfieldB_52_1_1_true) ?_
            refine TO.stB (us := [.bool ((mlen y90 : Int) == (w64 (a0 * (w64 (a0 - 1)))))]) 7 [I x99, v9, .map (some r85), v16, .map (some r89), v91, .bool ((mlen y90 : Int) == (w64 (a0 * (w64 (a0 - 1))))), v24, v27] rfl rfl rfl ksizeB_4_1_true rfl rfl rfl (by simp [Value.oneCell']) rfl ?_
            refine TO.code ?_
            refine TC.k ?_
            refine TC.k ?_
            refine TC.region ?_
            refine TO.s rfl rfl rfl (StepS.move rfl) ?_
            refine TO.s rfl rfl rfl (StepS.nilc rfl) ?_
            refine TO.s rfl rfl rfl (StepS.fld rfl kfieldB_134_3_3_true) ?_
            refine TO.s rfl rfl rfl (StepS.ldB rfl (Ent.at 7 rfl) kscalB_115_true rfl) ?_
            refine TO.s rfl rfl rfl (StepS.lenm rfl (OwnS.rd (Ent.at 6 rfl)) ksliceB_115_4_1_true rfl) ?_
            refine TO.s rfl rfl rfl (StepS.move rfl) ?_
            refine TO.code ?_
            obtain ⟨o129, hw130, hm⟩ := bind_some hm
            refine TC.loop hw130 (fun (b124, x125) => fun a w => Mid 126 B [(4, .pointer (some ⟨b4, 0, none⟩)), (6, .pointer (some ⟨bq8_8_1, 0, none⟩)), (103, v16), (104, I (y98.length : Int)), (105, I x125)] (MS (fun k : Int × Int => .agg #[I k.1, I k.2]) 3 1 cI r85 hs87 (y86) :: MF (fun k : Int × Int => .agg #[I k.1, I k.2]) (fun x : Bool => .bool x) r89 (y90) :: OwnS 28 1 v91 (y93.map cI) :: OwnS 3 1 v24 (y94.map cI) :: SS 22 3 1 cI v27 hs96 (y95) :: OwnS 3 1 v9 (y97.map cI) :: OwnS 4 1 v16 (y98.map cB) :: Bx bq8_8_1 134 [I x99, v9, .map (some r85), v16, .map (some r89), v91, .bool b124, v24, v27] :: Bx b4 52 [.slice none 0 0, .bool false, .slice none 0 0, .slice none 0 0] :: L) a w) (fun b128 => fun a w => Mid 126 B [(4, .pointer (some ⟨b4, 0, none⟩)), (6, .pointer (some ⟨bq8_8_1, 0, none⟩))] (MS (fun k : Int × Int => .agg #[I k.1, I k.2]) 3 1 cI r85 hs87 (y86) :: MF (fun k : Int × Int => .agg #[I k.1, I k.2]) (fun x : Bool => .bool x) r89 (y90) :: OwnS 28 1 v91 (y93.map cI) :: OwnS 3 1 v24 (y94.map cI) :: SS 22 3 1 cI v27 hs96 (y95) :: OwnS 3 1 v9 (y97.map cI) :: OwnS 4 1 v16 (y98.map cB) :: Bx bq8_8_1 134 [I x99, v9, .map (some r85), v16, .map (some r89), v91, .bool b128, v24, v27] :: Bx b4 52 [.slice none 0 0, .bool false, .slice none 0 0, .slice none 0 0] :: L) a w) (fun (_ : Unit) _ _ => False) ?_ ?_ ?_ ?_
            · rintro ⟨b124, x125⟩ o129r hb131 a w ⟨he, hs⟩
              dsimp only [F26_L2] at hb131
              refine TC.use ?_ he hs
              refine TC.k ?_
              refine TC.region ?_
              refine TO.s rfl rfl rfl (StepS.cmp rfl rfl rfl) ?_
              refine TO.code ?_
              refine TC.k ?_
              refine TC.cond rfl (fun hc132 => ?_) (fun hc132 => ?_)
              · replace hb131 := cond_t hc132 hb131
                refine TC.skipk ?_
                refine TC.k ?_
                refine TC.block ?_
                refine TC.k ?_
                refine TC.region ?_
                obtain ⟨x133, hx134, hb131⟩ := bind_some hb131
                refine TO.s rfl rfl rfl (StepS.idx rfl rfl (OwnS.rd (Ent.at 6 rfl)) ksliceB_115_4_1_true (idx_spec hx134).1 (idxm_lt hx134)) ?_
                refine TO.s rfl rfl rfl (StepS.ld0 rfl (OwnS.rd (Ent.at 6 rfl)) kscalB_4_true rfl (idxm hx134) rfl) ?_
                refine TO.s rfl rfl rfl (StepS.assign rfl) ?_
                refine TO.code ?_
                refine TC.region ?_
                refine TO.s rfl rfl rfl (StepS.move rfl) ?_
                refine TO.s rfl rfl rfl (StepS.move rfl) ?_
                refine TO.s rfl rfl rfl (StepS.nilc rfl) ?_
                refine TO.s rfl rfl rfl (StepS.fld rfl kfieldB_134_5_5_true) ?_
                refine TO.s rfl rfl rfl (StepS.fld rfl kfieldB_52_1_1_true) ?_
                refine TO.s rfl rfl rfl (StepS.ldB rfl (Ent.at 7 rfl) kscalB_4_true rfl) ?_
                refine TO.s rfl rfl rfl (StepS.move rfl) ?_
                refine TO.mid1 2 117 (.bool (b124 && x133)) ?_ ?_
                · refine bcase (b124) (fun hb135 => ?_) (fun hb135 => ?_)
                  · refine TO.sw rfl rfl rfl hb135 rfl rfl (StepS.move rfl) ?_
                    refine TO.s rfl rfl rfl (StepS.pickT rfl hb135 rfl) ?_
                    exact TO.up1 2 0 rfl rfl (by rw [hb135]; rfl) rfl
                  · refine TO.skip rfl rfl rfl (skipF hb135) rfl rfl ?_
                    refine TO.s rfl rfl rfl (StepS.pickF rfl hb135 rfl) ?_
                    exact TO.up1 2 0 rfl rfl (by rw [hb135]; rfl) rfl
                refine TO.s rfl rfl rfl (StepS.nilc rfl) ?_
                refine TO.s rfl rfl rfl (StepS.fld rfl kfieldB_134_5_5_true) ?_
                refine TO.s rfl rfl rfl (StepS.fld rfl kfieldB_52_1_1_true) ?_
                refine TO.stB (us := [.bool (b124 && x133)]) 7 [I x99, v9, .map (some r85), v16, .map (some r89), v91, .bool (b124 && x133), v24, v27] rfl rfl rfl ksizeB_4_1_true rfl rfl rfl (by simp [Value.oneCell']) rfl ?_
                refine TO.code ?_
                refine TC.region ?_
                refine TO.s rfl rfl rfl (StepS.ari rfl rfl rfl) ?_
                refine TO.s rfl rfl rfl (StepS.move rfl) ?_
                cases hb131
                refine TO.nil fun a w e s => ?_
                exact ⟨e.sub (lk_of_allIn ⟨rfl, rfl, rfl, rfl, rfl, trivial⟩), s⟩
              · replace hb131 := cond_f hc132 hb131
                cases hb131
                refine TC.exit rfl fun a w e s => ?_
                exact ⟨e.sub (lk_of_allIn ⟨rfl, rfl, trivial⟩), s⟩
            · exact fun a w e s => ⟨e.sub (lk_of_allIn ⟨rfl, rfl, rfl, rfl, rfl, trivial⟩), s⟩
            · rintro b128 rfl a w ⟨he, hs⟩
              dsimp only [Ctl.on] at hm
              refine TC.use ?_ he hs
              refine TC.k ?_
              refine TC.region ?_
              refine TO.s rfl rfl rfl (StepS.move rfl) ?_
              refine TO.s rfl rfl rfl (StepS.nilc rfl) ?_
              refine TO.s rfl rfl rfl (StepS.fld rfl kfieldB_134_5_5_true) ?_
              refine TO.s rfl rfl rfl (StepS.ldBA rfl (Ent.at 7 rfl) kaggB_52_4_true rfl rfl) ?_
              refine TO.pure (fun _ s => Rd.one (OwnS.rd (Ent.at 2 rfl)) s) fun oc136 => ?_
              refine TO.pure (fun _ s => Rd.one (OwnS.rd (Ent.at 3 rfl)) s) fun oc137 => ?_
              refine TO.pure (fun _ s => Rd.one (RR.top (SS.rr (Ent.at 4 rfl))) s) fun oc138 => ?_
              refine TO.stB (us := [v91, .bool b128, v24, v27]) 8 [v91, .bool b128, v24, v27] rfl rfl rfl ksizeB_52_4_true rfl rfl rfl (by intro u hu; simp only [List.mem_cons, List.not_mem_nil, or_false] at hu; rcases hu with rfl | rfl | rfl | rfl <;> first | exact oc136.1 | exact oc137.1 | exact oc138.1 | rfl) rfl ?_
              refine TO.s rfl rfl rfl (StepS.assign rfl) ?_
              refine TO.code ?_
              cases hm
              refine TC.ret fun a w e s => ?_
              refine FRet.cell2 (P := Try.prog) (fn := Try.f26) e s rfl rfl rfl (Ent.at 8 rfl) kaggB_52_4_true rfl ?_
              refine ⟨_, _, rfl, ⟨(v91), (v24), (v27), (hs96), rfl, rfl⟩, ?_⟩
              refine s.mono fun _ s => ?_
              replace s := Sat.front 4 rfl s
              replace s := Sat.front 4 rfl s
              replace s := Sat.front 4 rfl s
              replace s := Sat.erase 3 s
              replace s := Sat.erase 3 s
              replace s := Sat.erase 3 s
              replace s := Sat.erase 3 s
              replace s := Sat.erase 3 s
              replace s := Sat.erase 3 s
              exact s
            · rintro r rfl
              exact fun a w h => h.elim
          · rintro r rfl
            exact fun a w h => h.elim
        · rintro r rfl
          exact fun a w h => h.elim
end Go.Proofs.Ythfkdepcnhhepaa
