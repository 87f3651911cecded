/-
  The walks: each Go function returns what its model says. Written by a program (gen.py).
-/
import Derived.Test.YthfkdepcnhhepaaProg
import Derived.KernelRfl
import Derived.Test.YthfkdepcnhhepaaKW
import Derived.Test.YthfkdepcnhhepaaQM
namespace Go.Proofs.Ythfkdepcnhhepaa
open Go Go.Bk
set_option linter.unusedVariables false
set_option linter.unnecessarySimpa false
theorem kscalB_109_true : scalB Try.prog 109 = true := by kernel_rfl
theorem kfieldB_112_0_0_true : fieldB Try.prog 112 0 0 = true := by kernel_rfl
theorem kfieldB_112_1_1_true : fieldB Try.prog 112 1 1 = true := by kernel_rfl
theorem kscalB_36_true : scalB Try.prog 36 = true := by kernel_rfl
theorem kfieldB_112_2_2_true : fieldB Try.prog 112 2 2 = true := by kernel_rfl
theorem kfieldB_112_3_3_true : fieldB Try.prog 112 3 3 = true := by kernel_rfl
theorem ksizeB_3_1_true : sizeB Try.prog 3 1 = true := by kernel_rfl
theorem kunderlying_114_some_array_2_3 : Try.prog.underlying 114 = some (.array 2 3) := by kernel_rfl
theorem kunderlying_3_some_int_i64 : Try.prog.underlying 3 = some (.int .i64) := by kernel_rfl
theorem kinfo_114_bind_zero_some_agg_I_0_I_0 : (Try.prog.info? 114).bind (·.zero) = some (.agg #[I 0, I 0]) := by kernel_rfl
theorem ksizeB_114_2_true : sizeB Try.prog 114 2 = true := by kernel_rfl
theorem kfieldB_112_4_4_true : fieldB Try.prog 112 4 4 = true := by kernel_rfl
theorem kscalB_110_true : scalB Try.prog 110 = true := by kernel_rfl
theorem kaggB_114_2_true : aggB Try.prog 114 2 = true := by kernel_rfl
theorem kmapGB_110_114_3_true : mapGB Try.prog 110 114 3 = true := by kernel_rfl
theorem kinfo_3_bind_zero_some_I_0 : (Try.prog.info? 3).bind (·.zero) = some (I 0) := by kernel_rfl
theorem ksizeB_36_1_true : sizeB Try.prog 36 1 = true := by kernel_rfl
theorem kcallB_90_true : callB Try.prog 90 = true := by kernel_rfl
theorem kfieldB_106_0_0_true : fieldB Try.prog 106 0 0 = true := by kernel_rfl
theorem kcallB_88_true : callB Try.prog 88 = true := by kernel_rfl
theorem kcallB_89_true : callB Try.prog 89 = true := by kernel_rfl
theorem kinfo_38_bind_zero_some_agg_slice_none_0_0_bool_false_U_0_I_0 : (Try.prog.info? 38).bind (·.zero) = some (.agg #[.slice none 0 0, .bool false, U 0, I 0]) := by kernel_rfl
theorem ksliceB_23_106_4_true : sliceB Try.prog 23 106 4 = true := by kernel_rfl
theorem ksizeB_38_4_true : sizeB Try.prog 38 4 = true := by kernel_rfl
theorem kaggB_38_4_true : aggB Try.prog 38 4 = true := by kernel_rfl
theorem kelemB_22_3_1_8_true : elemB Try.prog 22 3 1 8 = true := by kernel_rfl
theorem ksizeB_22_1_true : sizeB Try.prog 22 1 = true := by kernel_rfl
theorem kaggB_106_4_true : aggB Try.prog 106 4 = true := by kernel_rfl
theorem kinfo_106_bind_zero_some_agg_I_0_I_0_I_0_I_0 : (Try.prog.info? 106).bind (·.zero) = some (.agg #[I 0, I 0, I 0, I 0]) := by kernel_rfl
theorem ksizeB_106_4_true : sizeB Try.prog 106 4 = true := by kernel_rfl
theorem kfieldB_38_0_0_true : fieldB Try.prog 38 0 0 = true := by kernel_rfl
theorem kscalB_24_true : scalB Try.prog 24 = true := by kernel_rfl
theorem kcallB_53_true : callB Try.prog 53 = true := by kernel_rfl
theorem kelemB_24_28_1_8_true : elemB Try.prog 24 28 1 8 = true := by kernel_rfl
theorem kinfo_28_bind_zero_some_I_0 : (Try.prog.info? 28).bind (·.zero) = some (I 0) := by kernel_rfl
theorem ksizeB_24_1_true : sizeB Try.prog 24 1 = true := by kernel_rfl
theorem kfieldB_38_3_3_true : fieldB Try.prog 38 3 3 = true := by kernel_rfl
theorem kfieldB_38_2_2_true : fieldB Try.prog 38 2 2 = true := by kernel_rfl
theorem kfieldB_38_1_1_true : fieldB Try.prog 38 1 1 = true := by kernel_rfl
theorem ksizeB_4_1_true : sizeB Try.prog 4 1 = true := by kernel_rfl
theorem kscalB_116_true : scalB Try.prog 116 = true := by kernel_rfl
theorem ksliceB_116_118_3_true : sliceB Try.prog 116 118 3 = true := by kernel_rfl
theorem kaggB_118_3_true : aggB Try.prog 118 3 = true := by kernel_rfl
theorem kinfo_118_bind_zero_some_agg_I_0_I_0_I_0 : (Try.prog.info? 118).bind (·.zero) = some (.agg #[I 0, I 0, I 0]) := by kernel_rfl
theorem ksizeB_118_3_true : sizeB Try.prog 118 3 = true := by kernel_rfl
theorem kfieldB_118_0_0_true : fieldB Try.prog 118 0 0 = true := by kernel_rfl
theorem kfieldB_118_2_2_true : fieldB Try.prog 118 2 2 = true := by kernel_rfl
theorem kfieldB_118_1_1_true : fieldB Try.prog 118 1 1 = true := by kernel_rfl
theorem kscalB_119_true : scalB Try.prog 119 = true := by kernel_rfl
theorem kcallB_55_true : callB Try.prog 55 = true := by kernel_rfl
theorem kscalB_115_true : scalB Try.prog 115 = true := by kernel_rfl
theorem ksliceB_115_4_1_true : sliceB Try.prog 115 4 1 = true := by kernel_rfl
theorem kscalB_4_true : scalB Try.prog 4 = true := by kernel_rfl
theorem kcallB_54_true : callB Try.prog 54 = true := by kernel_rfl
theorem kelemB_115_4_1_1_true : elemB Try.prog 115 4 1 1 = true := by kernel_rfl
theorem kinfo_4_bind_zero_some_bool_false : (Try.prog.info? 4).bind (·.zero) = some (.bool false) := by kernel_rfl
theorem kinfo_115_bind_zero_some_slice_none_0_0 : (Try.prog.info? 115).bind (·.zero) = some (.slice none 0 0) := by kernel_rfl
theorem ksizeB_115_1_true : sizeB Try.prog 115 1 = true := by kernel_rfl
theorem kinfo_116_bind_zero_some_slice_none_0_0 : (Try.prog.info? 116).bind (·.zero) = some (.slice none 0 0) := by kernel_rfl
theorem kinfo_119_bind_zero_some_nilFunc : (Try.prog.info? 119).bind (·.zero) = some (.nilFunc) := by kernel_rfl
theorem ksizeB_119_1_true : sizeB Try.prog 119 1 = true := by kernel_rfl
theorem kcallB_57_true : callB Try.prog 57 = true := by kernel_rfl
theorem kcallB_56_true : callB Try.prog 56 = true := by kernel_rfl
theorem kelemB_116_118_3_24_true : elemB Try.prog 116 118 3 24 = true := by kernel_rfl
theorem ksizeB_116_1_true : sizeB Try.prog 116 1 = true := by kernel_rfl
theorem kintB_3_i64_true : intB Try.prog 3 .i64 = true := by kernel_rfl
theorem kintB_108_u64_true : intB Try.prog 108 .u64 = true := by kernel_rfl
theorem kcallB_20_true : callB Try.prog 20 = true := by kernel_rfl
theorem kcallB_21_true : callB Try.prog 21 = true := by kernel_rfl
theorem kcallB_22_true : callB Try.prog 22 = true := by kernel_rfl
theorem kcallB_18_true : callB Try.prog 18 = true := by kernel_rfl
theorem kunderlying_4_some_bool : Try.prog.underlying 4 = some .bool := by kernel_rfl

set_option maxRecDepth 100000 in
theorem C88 {B : World} {L : List HP} {a0 : Int} {a1_0 : Int} {b1_ : Nat} {c1_ : Nat} {u1_1_0 : Value} {u1_2_0 : Value} {u1_3_0 : Value} {u1_4_0 : Value} {r0 : Bool} (g1 : Ent L (Bx b1_ 109 [.pointer (some ⟨c1_, 0, none⟩)])) (gg1 : Ent L (Bx c1_ 112 [I a1_0, u1_1_0, u1_2_0, u1_3_0, u1_4_0])) (hm : F88 a0 a1_0 = some r0) {w : World} (st : St B L w) : Calls Try.prog 88 #[I a0, .pointer (some ⟨b1_, 0, none⟩)] w (fun e w' => (e = .returned (.bool r0) ∧ St B (L) w')) := by
  refine calls_of (N := 14) (L := L) (args := [I a0, .pointer (some ⟨b1_, 0, none⟩)]) Try.func88 rfl rfl rfl ?_ st
  dsimp only [F88] at hm
  refine TC.k ?_
  refine TC.region ?_
  refine TO.s rfl rfl rfl (StepS.assign rfl) ?_
  refine TO.code ?_
  refine TC.k ?_
  refine TC.region ?_
  refine TO.s rfl rfl rfl (StepS.move rfl) ?_
  refine TO.s rfl rfl rfl (StepS.cmp rfl rfl rfl) ?_
  refine TO.s rfl rfl rfl (StepS.move rfl) ?_
  refine TO.mid1 7 13 (.bool ((decide (a0 < 0)) || (decide (a0 ≥ a1_0)))) ?_ ?_
  · refine bcase ((decide (a0 < 0))) (fun hb1 => ?_) (fun hb1 => ?_)
    · refine TO.skip rfl rfl rfl (skipT hb1) rfl rfl ?_
      refine TO.skip rfl rfl rfl (skipT hb1) rfl rfl ?_
      refine TO.skip rfl rfl rfl (skipT hb1) rfl rfl ?_
      refine TO.skip rfl rfl rfl (skipT hb1) rfl rfl ?_
      refine TO.skip rfl rfl rfl (skipT hb1) rfl rfl ?_
      refine TO.skip rfl rfl rfl (skipT hb1) rfl rfl ?_
      refine TO.s rfl rfl rfl (StepS.pickT rfl hb1 rfl) ?_
      exact TO.up1 7 0 rfl rfl (by rw [hb1]; rfl) rfl
    · refine TO.sw rfl rfl rfl hb1 rfl rfl (StepS.move rfl) ?_
      refine TO.sw rfl rfl rfl hb1 rfl rfl (StepS.ldB rfl g1 kscalB_109_true rfl) ?_
      refine TO.sw rfl rfl rfl hb1 rfl rfl (StepS.nilc rfl) ?_
      refine TO.sw rfl rfl rfl hb1 rfl rfl (StepS.fld rfl kfieldB_112_0_0_true) ?_
      refine TO.sw rfl rfl rfl hb1 rfl rfl (StepS.ldB rfl gg1 kscalB_3_true rfl) ?_
      refine TO.sw rfl rfl rfl hb1 rfl rfl (StepS.cmp rfl rfl rfl) ?_
      refine TO.s rfl rfl rfl (StepS.pickF rfl hb1 rfl) ?_
      exact TO.up1 7 0 rfl rfl (by rw [hb1]; rfl) rfl
  refine TO.s rfl rfl rfl (StepS.assign rfl) ?_
  refine TO.code ?_
  cases hm
  refine TC.ret fun a w e s => ?_
  refine FRet.mk1 (P := Try.prog) (fn := Try.f88) (t := 3) e rfl rfl ?_
  exact ⟨rfl, s.mono fun _ => Sat.dropN 0⟩

set_option maxRecDepth 100000 in
theorem C90 {B : World} {L : List HP} {a0 : (BitVec 32) × (List Int) × List Int} {a1 : Int} {b0_ : Nat} {u0_0 : Value} {u0_4 : Value} {h0_1 : Value} {h0_2 : Value} {s0 : (BitVec 32) × (List Int) × List Int} (hm : F90 a0 a1 = some s0) {w : World} (st : St B (Bx b0_ 112 [u0_0, U a0.1, h0_1, h0_2, u0_4] :: OwnS 3 1 h0_1 (a0.2.1.map cI) :: OwnS 3 1 h0_2 (a0.2.2.map cI) :: L) w) : Calls Try.prog 90 #[.pointer (some ⟨b0_, 0, none⟩), I a1] w (fun e w' => ∃ v M, e = .returned v ∧ (v = .tuple #[] ∧ M = (Bx b0_ 112 [u0_0, U s0.1, h0_1, h0_2, u0_4] :: OwnS 3 1 h0_1 (s0.2.1.map cI) :: OwnS 3 1 h0_2 (s0.2.2.map cI) :: L)) ∧ St B M w') := by
  refine calls_of (N := 62) (L := (Bx b0_ 112 [u0_0, U a0.1, h0_1, h0_2, u0_4] :: OwnS 3 1 h0_1 (a0.2.1.map cI) :: OwnS 3 1 h0_2 (a0.2.2.map cI) :: L)) (args := [.pointer (some ⟨b0_, 0, none⟩), I a1]) Try.func90 rfl rfl rfl ?_ st
  dsimp only [F90] at hm
  obtain ⟨o13, hw14, hm⟩ := bind_some hm
  refine TC.loop hw14 (fun (y5, y6, x7) => fun a w => Mid 62 B [(0, .pointer (some ⟨b0_, 0, none⟩)), (1, I x7)] (Bx b0_ 112 [u0_0, U a0.1, h0_1, h0_2, u0_4] :: OwnS 3 1 h0_1 (y5.map cI) :: OwnS 3 1 h0_2 (y6.map cI) :: L) a w) (fun (y11, y12) => fun a w => Mid 62 B [] (Bx b0_ 112 [u0_0, U a0.1, h0_1, h0_2, u0_4] :: OwnS 3 1 h0_1 (y11.map cI) :: OwnS 3 1 h0_2 (y12.map cI) :: L) a w) (fun (_ : Unit) _ _ => False) ?_ ?_ ?_ ?_
  · rintro ⟨y5, y6, x7⟩ o13r hb15 a w ⟨he, hs⟩
    dsimp only [F90_L0] at hb15
    refine TC.use ?_ he hs
    refine TC.k ?_
    refine TC.k ?_
    refine TC.region ?_
    refine TO.s rfl rfl rfl (StepS.move rfl) ?_
    refine TO.s rfl rfl rfl (StepS.cmp rfl rfl rfl) ?_
    refine TO.s rfl rfl rfl (StepS.move rfl) ?_
    obtain ⟨b17, hj18, hb15⟩ := bind_some hb15
    refine TO.mid1 9 16 (.bool b17) ?_ ?_
    · refine bcase ((x7 != 0)) (fun hb16 => ?_) (fun hb16 => ?_)
      · replace hj18 := cond_t hb16 hj18
        refine TO.sw rfl rfl rfl hb16 rfl rfl (StepS.move rfl) ?_
        refine TO.sw rfl rfl rfl hb16 rfl rfl (StepS.nilc rfl) ?_
        refine TO.sw rfl rfl rfl hb16 rfl rfl (StepS.fld rfl kfieldB_112_1_1_true) ?_
        refine TO.sw rfl rfl rfl hb16 rfl rfl (StepS.ldB rfl (Ent.at 0 rfl) kscalB_36_true rfl) ?_
        refine TO.sw rfl rfl rfl hb16 rfl rfl (StepS.move rfl) ?_
        obtain ⟨k19, hk20, hj18⟩ := bind_some hj18
        refine TO.sw rfl rfl rfl hb16 rfl rfl (StepS.shrk rfl rfl hk20) ?_
        refine TO.sw rfl rfl rfl hb16 rfl rfl (StepS.bitU (n := 1#32) rfl rfl rfl) ?_
        refine TO.sw rfl rfl rfl hb16 rfl rfl (StepS.cmpU (n := 0#32) rfl rfl rfl) ?_
        cases hj18
        refine TO.s rfl rfl rfl (StepS.pickT rfl hb16 rfl) ?_
        exact TO.up1 9 0 rfl rfl rfl rfl
      · replace hj18 := cond_f hb16 hj18
        cases hj18
        refine TO.skip rfl rfl rfl (skipF hb16) rfl rfl ?_
        refine TO.skip rfl rfl rfl (skipF hb16) rfl rfl ?_
        refine TO.skip rfl rfl rfl (skipF hb16) rfl rfl ?_
        refine TO.skip rfl rfl rfl (skipF hb16) rfl rfl ?_
        refine TO.skip rfl rfl rfl (skipF hb16) rfl rfl ?_
        refine TO.skip rfl rfl rfl (skipF hb16) rfl rfl ?_
        refine TO.skip rfl rfl rfl (skipF hb16) rfl rfl ?_
        refine TO.skip rfl rfl rfl (skipF hb16) rfl rfl ?_
        refine TO.s rfl rfl rfl (StepS.pickF rfl hb16 rfl) ?_
        exact TO.up1 9 0 rfl rfl rfl rfl
    refine TO.s rfl rfl rfl (StepS.move rfl) ?_
    obtain ⟨b22, hj23, hb15⟩ := bind_some hb15
    refine TO.mid1 9 26 (.bool b22) ?_ ?_
    · refine bcase (b17) (fun hb21 => ?_) (fun hb21 => ?_)
      · replace hj23 := cond_t hb21 hj23
        refine TO.sw rfl rfl rfl hb21 rfl rfl (StepS.move rfl) ?_
        refine TO.sw rfl rfl rfl hb21 rfl rfl (StepS.nilc rfl) ?_
        refine TO.sw rfl rfl rfl hb21 rfl rfl (StepS.fld rfl kfieldB_112_2_2_true) ?_
        refine TO.sw rfl rfl rfl hb21 rfl rfl (StepS.ldB rfl (Ent.at 0 rfl) kscalB_22_true rfl) ?_
        refine TO.sw rfl rfl rfl hb21 rfl rfl (StepS.move rfl) ?_
        obtain ⟨x24, hx25, hj23⟩ := bind_some hj23
        refine TO.sw rfl rfl rfl hb21 rfl rfl (StepS.idx rfl rfl (OwnS.rd (Ent.at 1 rfl)) ksliceB_22_3_1_true (idx_spec hx25).1 (idxm_lt hx25)) ?_
        refine TO.sw rfl rfl rfl hb21 rfl rfl (StepS.ld0 rfl (OwnS.rd (Ent.at 1 rfl)) kscalB_3_true rfl (idxm hx25) rfl) ?_
        refine TO.sw rfl rfl rfl hb21 rfl rfl (StepS.cmp rfl rfl rfl) ?_
        cases hj23
        refine TO.s rfl rfl rfl (StepS.pickT rfl hb21 rfl) ?_
        exact TO.up1 9 0 rfl rfl rfl rfl
      · replace hj23 := cond_f hb21 hj23
        cases hj23
        refine TO.skip rfl rfl rfl (skipF hb21) rfl rfl ?_
        refine TO.skip rfl rfl rfl (skipF hb21) rfl rfl ?_
        refine TO.skip rfl rfl rfl (skipF hb21) rfl rfl ?_
        refine TO.skip rfl rfl rfl (skipF hb21) rfl rfl ?_
        refine TO.skip rfl rfl rfl (skipF hb21) rfl rfl ?_
        refine TO.skip rfl rfl rfl (skipF hb21) rfl rfl ?_
        refine TO.skip rfl rfl rfl (skipF hb21) rfl rfl ?_
        refine TO.skip rfl rfl rfl (skipF hb21) rfl rfl ?_
        refine TO.s rfl rfl rfl (StepS.pickF rfl hb21 rfl) ?_
        exact TO.up1 9 0 rfl rfl rfl rfl
    refine TO.s rfl rfl rfl (StepS.move rfl) ?_
    obtain ⟨b27, hj28, hb15⟩ := bind_some hb15
    refine TO.mid1 10 37 (.bool b27) ?_ ?_
    · refine bcase (b22) (fun hb26 => ?_) (fun hb26 => ?_)
      · replace hj28 := cond_t hb26 hj28
        refine TO.sw rfl rfl rfl hb26 rfl rfl (StepS.move rfl) ?_
        refine TO.sw rfl rfl rfl hb26 rfl rfl (StepS.nilc rfl) ?_
        refine TO.sw rfl rfl rfl hb26 rfl rfl (StepS.fld rfl kfieldB_112_3_3_true) ?_
        refine TO.sw rfl rfl rfl hb26 rfl rfl (StepS.ldB rfl (Ent.at 0 rfl) kscalB_22_true rfl) ?_
        refine TO.sw rfl rfl rfl hb26 rfl rfl (StepS.move rfl) ?_
        obtain ⟨x29, hx30, hj28⟩ := bind_some hj28
        refine TO.sw rfl rfl rfl hb26 rfl rfl (StepS.idx rfl rfl (OwnS.rd (Ent.at 2 rfl)) ksliceB_22_3_1_true (idx_spec hx30).1 (idxm_lt hx30)) ?_
        refine TO.sw rfl rfl rfl hb26 rfl rfl (StepS.ld0 rfl (OwnS.rd (Ent.at 2 rfl)) kscalB_3_true rfl (idxm hx30) rfl) ?_
        refine TO.sw rfl rfl rfl hb26 rfl rfl (StepS.move rfl) ?_
        refine TO.sw rfl rfl rfl hb26 rfl rfl (StepS.cmp rfl rfl rfl) ?_
        cases hj28
        refine TO.s rfl rfl rfl (StepS.pickT rfl hb26 rfl) ?_
        exact TO.up1 10 0 rfl rfl rfl rfl
      · replace hj28 := cond_f hb26 hj28
        cases hj28
        refine TO.skip rfl rfl rfl (skipF hb26) rfl rfl ?_
        refine TO.skip rfl rfl rfl (skipF hb26) rfl rfl ?_
        refine TO.skip rfl rfl rfl (skipF hb26) rfl rfl ?_
        refine TO.skip rfl rfl rfl (skipF hb26) rfl rfl ?_
        refine TO.skip rfl rfl rfl (skipF hb26) rfl rfl ?_
        refine TO.skip rfl rfl rfl (skipF hb26) rfl rfl ?_
        refine TO.skip rfl rfl rfl (skipF hb26) rfl rfl ?_
        refine TO.skip rfl rfl rfl (skipF hb26) rfl rfl ?_
        refine TO.skip rfl rfl rfl (skipF hb26) rfl rfl ?_
        refine TO.s rfl rfl rfl (StepS.pickF rfl hb26 rfl) ?_
        exact TO.up1 10 0 rfl rfl rfl rfl
    refine TO.code ?_
    refine TC.cond rfl (fun hc31 => ?_) (fun hc31 => ?_)
    · replace hb15 := cond_t hc31 hb15
      refine TC.skipk ?_
      refine TC.block ?_
      refine TC.k ?_
      refine TC.region ?_
      refine TO.s rfl rfl rfl (StepS.move rfl) ?_
      refine TO.s rfl rfl rfl (StepS.nilc rfl) ?_
      refine TO.s rfl rfl rfl (StepS.fld rfl kfieldB_112_3_3_true) ?_
      refine TO.s rfl rfl rfl (StepS.ldB rfl (Ent.at 0 rfl) kscalB_22_true rfl) ?_
      refine TO.s rfl rfl rfl (StepS.move rfl) ?_
      obtain ⟨x32, hx33, hb15⟩ := bind_some hb15
      refine TO.s rfl rfl rfl (StepS.idx rfl rfl (OwnS.rd (Ent.at 2 rfl)) ksliceB_22_3_1_true (idx_spec hx33).1 (idxm_lt hx33)) ?_
      refine TO.s rfl rfl rfl (StepS.ld0 rfl (OwnS.rd (Ent.at 2 rfl)) kscalB_3_true rfl (idxm hx33) rfl) ?_
      refine TO.s rfl rfl rfl (StepS.assign rfl) ?_
      refine TO.code ?_
      refine TC.k ?_
      refine TC.region ?_
      refine TO.s rfl rfl rfl (StepS.move rfl) ?_
      refine TO.s rfl rfl rfl (StepS.nilc rfl) ?_
      refine TO.s rfl rfl rfl (StepS.fld rfl kfieldB_112_3_3_true) ?_
      refine TO.s rfl rfl rfl (StepS.ldB rfl (Ent.at 0 rfl) kscalB_22_true rfl) ?_
      refine TO.s rfl rfl rfl (StepS.move rfl) ?_
      refine TO.s rfl rfl rfl (StepS.move rfl) ?_
      obtain ⟨x34, hx35, hb15⟩ := bind_some hb15
      refine TO.s rfl rfl rfl (StepS.idx rfl rfl (OwnS.rd (Ent.at 2 rfl)) ksliceB_22_3_1_true (idx_spec hx35).1 (idxm_lt hx35)) ?_
      refine TO.stO (i := x7.toNat) (off := 0) (us := [I x7]) 2 x7 rfl rfl rfl ksizeB_3_1_true rfl rfl rfl (idx_spec hx35).2 rfl (by simp [Value.oneCell']) rfl ?_
      refine TO.code ?_
      refine TC.k ?_
      refine TC.region ?_
      refine TO.s rfl rfl rfl (StepS.move rfl) ?_
      refine TO.s rfl rfl rfl (StepS.nilc rfl) ?_
      refine TO.s rfl rfl rfl (StepS.fld rfl kfieldB_112_2_2_true) ?_
      refine TO.s rfl rfl rfl (StepS.ldB rfl (Ent.at 0 rfl) kscalB_22_true rfl) ?_
      refine TO.s rfl rfl rfl (StepS.move rfl) ?_
      obtain ⟨x36, hx37, hb15⟩ := bind_some hb15
      refine TO.s rfl rfl rfl (StepS.idx rfl rfl (OwnS.rd (Ent.at 1 rfl)) ksliceB_22_3_1_true (idx_spec hx37).1 (idxm_lt hx37)) ?_
      refine TO.s rfl rfl rfl (StepS.ld0 rfl (OwnS.rd (Ent.at 1 rfl)) kscalB_3_true rfl (idxm hx37) rfl) ?_
      refine TO.s rfl rfl rfl (StepS.ari rfl rfl rfl) ?_
      obtain ⟨x38, hx39, hb15⟩ := bind_some hb15
      refine TO.s rfl rfl rfl (StepS.idx rfl rfl (OwnS.rd (Ent.at 1 rfl)) ksliceB_22_3_1_true (idx_spec hx39).1 (idxm_lt hx39)) ?_
      refine TO.stO (i := x32.toNat) (off := 0) (us := [I (w64 (x36 - 1))]) 1 (w64 (x36 - 1)) rfl rfl rfl ksizeB_3_1_true rfl rfl rfl (idx_spec hx39).2 rfl (by simp [Value.oneCell']) rfl ?_
      refine TO.code ?_
      refine TC.region ?_
      refine TO.s rfl rfl rfl (StepS.move rfl) ?_
      refine TO.s rfl rfl rfl (StepS.assign rfl) ?_
      cases hb15
      refine TO.nil fun a w e s => ?_
      exact ⟨e.sub (lk_of_allIn ⟨rfl, rfl, trivial⟩), s⟩
    · replace hb15 := cond_f hc31 hb15
      cases hb15
      refine TC.exit rfl fun a w e s => ?_
      exact ⟨e.sub (lk_of_allIn trivial), s⟩
  · exact fun a w e s => ⟨e.sub (lk_of_allIn ⟨rfl, rfl, trivial⟩), s⟩
  · rintro ⟨y11, y12⟩ rfl a w ⟨he, hs⟩
    dsimp only [Ctl.on] at hm
    cases hm
    have e := he; have s := hs
    refine FRet.mk0 (P := Try.prog) (fn := Try.f90) e rfl ?_
    refine ⟨_, _, rfl, ⟨rfl, rfl⟩, ?_⟩
    refine s.mono fun _ s => ?_
    replace s := Sat.front 2 rfl s
    replace s := Sat.front 2 rfl s
    replace s := Sat.front 2 rfl s
    exact s
  · rintro r rfl
    exact fun a w h => h.elim

set_option maxRecDepth 100000 in
theorem C89 {B : World} {L : List HP} {a0 : (BitVec 32) × (List Int) × (List Int) × ((Int × Int) → Option Int)} {a1 : Int} {a2 : Int} {b0_ : Nat} {u0_0 : Value} {h0_1 : Value} {h0_2 : Value} {h0_3 : Nat} {r0 : Int} {s0 : (BitVec 32) × (List Int) × (List Int) × ((Int × Int) → Option Int)} (hm : F89 a0 a1 a2 = some (r0, s0)) {w : World} (st : St B (Bx b0_ 112 [u0_0, U a0.1, h0_1, h0_2, .map (some h0_3)] :: OwnS 3 1 h0_1 (a0.2.1.map cI) :: OwnS 3 1 h0_2 (a0.2.2.1.map cI) :: MF (fun k : Int × Int => .agg #[I k.1, I k.2]) (fun x : Int => I x) h0_3 (a0.2.2.2) :: L) w) : Calls Try.prog 89 #[.pointer (some ⟨b0_, 0, none⟩), I a1, I a2] w (fun e w' => ∃ v M, e = .returned v ∧ (∃ (qr1 : Nat), v = I r0 ∧ M = (Bx b0_ 112 [u0_0, U s0.1, h0_1, h0_2, .map (some qr1)] :: OwnS 3 1 h0_1 (s0.2.1.map cI) :: OwnS 3 1 h0_2 (s0.2.2.1.map cI) :: MF (fun k : Int × Int => .agg #[I k.1, I k.2]) (fun x : Int => I x) qr1 (s0.2.2.2) :: L)) ∧ St B M w') := by
  refine calls_of (N := 68) (L := (Bx b0_ 112 [u0_0, U a0.1, h0_1, h0_2, .map (some h0_3)] :: OwnS 3 1 h0_1 (a0.2.1.map cI) :: OwnS 3 1 h0_2 (a0.2.2.1.map cI) :: MF (fun k : Int × Int => .agg #[I k.1, I k.2]) (fun x : Int => I x) h0_3 (a0.2.2.2) :: L)) (args := [.pointer (some ⟨b0_, 0, none⟩), I a1, I a2]) Try.func89 rfl rfl rfl ?_ st
  dsimp only [F89] at hm
  refine TC.k ?_
  refine TC.region ?_
  refine TO.s rfl rfl rfl (StepS.assign rfl) ?_
  refine TO.code ?_
  refine TC.k ?_
  refine TC.region ?_
  refine TO.s rfl rfl rfl (StepS.move rfl) ?_
  refine TO.s rfl rfl rfl (StepS.move rfl) ?_
  refine TO.s rfl rfl rfl (StepS.build (cs := [I a1, I a2]) rfl (by kernel_rfl)) ?_
  refine TO.alloc kinfo_114_bind_zero_some_agg_I_0_I_0 rfl rfl fun b7 => ?_
  refine TO.stB (us := [I a1, I a2]) 0 [I a1, I a2] rfl rfl rfl ksizeB_114_2_true rfl rfl rfl (by simp [Value.oneCell']) rfl ?_
  refine TO.code ?_
  refine TC.k ?_
  refine TC.k ?_
  refine TC.region_still kfollows_mixedOrders_true (by kernel_rfl) ?_
  refine TS.s rfl rfl rfl (StepS.move rfl) ?_
  refine TS.s rfl rfl rfl (StepS.nilc rfl) ?_
  refine TS.s rfl rfl rfl (StepS.fld rfl kfieldB_112_4_4_true) ?_
  refine TS.s rfl rfl rfl (StepS.ldB rfl (Ent.at 1 rfl) kscalB_110_true rfl) ?_
  refine TS.s rfl rfl rfl (StepS.ldBA rfl (Ent.at 0 rfl) kaggB_114_2_true rfl rfl) ?_
  refine TS.s rfl rfl rfl (StepS.lookF (k := (a1, a2)) kmapGB_110_114_3_true (KeyOk.pair kunderlying_114_some_array_2_3 kunderlying_3_some_int_i64 ksizeB_3_1_true kscalB_3_true) kinfo_3_bind_zero_some_I_0 rfl (Ent.at 4 rfl) rfl (getD_vf (vf := (fun x : Int => I x)) (a0.2.2.2 (a1, a2)) 0)) ?_
  refine TS.s rfl rfl rfl (StepS.cmp rfl rfl rfl) ?_
  refine TS.code ?_
  refine TC.cond rfl (fun hc8 => ?_) (fun hc8 => ?_)
  · replace hm := cond_t hc8 hm
    refine TC.k ?_
    refine TC.region ?_
    refine TO.s rfl rfl rfl (StepS.assign rfl) ?_
    refine TO.code ?_
    cases hm
    refine TC.ret fun a w e s => ?_
    refine FRet.mk1 (P := Try.prog) (fn := Try.f89) (t := 6) e rfl rfl ?_
    refine ⟨_, _, rfl, ⟨h0_3, rfl, rfl⟩, ?_⟩
    refine s.mono fun _ s => ?_
    replace s := Sat.front 4 rfl s
    replace s := Sat.front 4 rfl s
    replace s := Sat.front 4 rfl s
    replace s := Sat.front 4 rfl s
    replace s := Sat.erase 4 s
    exact s
  · replace hm := cond_f hc8 hm
    refine TC.skipk ?_
    refine TC.k ?_
    obtain ⟨y10, hj11, hm⟩ := bind_some hm
    first | refine TC.cutM (fun a w => Mid 68 B [(0, .pointer (some ⟨b0_, 0, none⟩)), (1, I a1), (2, I a2)] (Bx b7 114 [I a1, I a2] :: Bx b0_ 112 [u0_0, U a0.1, h0_1, h0_2, .map (some h0_3)] :: OwnS 3 1 h0_1 (a0.2.1.map cI) :: OwnS 3 1 h0_2 (a0.2.2.1.map cI) :: MF (fun k : Int × Int => .agg #[I k.1, I k.2]) (fun x : Int => I x) h0_3 (y10) :: L) a w) ?_ ?_ | refine TC.cutX (fun a w => Mid 68 B [(0, .pointer (some ⟨b0_, 0, none⟩)), (1, I a1), (2, I a2)] (Bx b7 114 [I a1, I a2] :: Bx b0_ 112 [u0_0, U a0.1, h0_1, h0_2, .map (some h0_3)] :: OwnS 3 1 h0_1 (a0.2.1.map cI) :: OwnS 3 1 h0_2 (a0.2.2.1.map cI) :: MF (fun k : Int × Int => .agg #[I k.1, I k.2]) (fun x : Int => I x) h0_3 (y10) :: L) a w) ?_ ?_
    · refine TC.region_any (Bx b7 114 [I a1, I a2] :: Bx b0_ 112 [u0_0, U a0.1, h0_1, h0_2, .map (some h0_3)] :: OwnS 3 1 h0_1 (a0.2.1.map cI) :: OwnS 3 1 h0_2 (a0.2.2.1.map cI) :: MF (fun k : Int × Int => .agg #[I k.1, I k.2]) (fun x : Int => I x) h0_3 (a0.2.2.2) :: L) 7 10 kfollows_mixedOrders_true rfl ?_
      refine TA.takeW 0 rfl rfl rfl rfl (StepS.move rfl) (by kernel_rfl) (by kernel_rfl) (by kernel_rfl) rfl (.inr (fun _ s => s)) ?_
      refine TA.takeW 1 rfl rfl rfl rfl (StepS.nilc rfl) (by kernel_rfl) (by kernel_rfl) (by kernel_rfl) rfl (.inr (fun _ s => s)) ?_
      refine TA.takeW 2 rfl rfl rfl rfl (StepS.fld rfl kfieldB_112_4_4_true) (by kernel_rfl) (by kernel_rfl) (by kernel_rfl) rfl (.inr (fun _ s => s)) ?_
      refine TA.take 3 rfl rfl rfl rfl (StepS.ldB rfl (Ent.at 1 rfl) kscalB_110_true rfl) (by kernel_rfl) (by kernel_rfl) (by kernel_rfl) (by kernel_rfl) (by kernel_rfl) (fun _ s => s) ?_
      refine TA.take 4 rfl rfl rfl rfl (StepS.ldBA rfl (Ent.at 0 rfl) kaggB_114_2_true rfl rfl) (by kernel_rfl) (by kernel_rfl) (by kernel_rfl) (by kernel_rfl) (by kernel_rfl) (fun _ s => s) ?_
      refine TA.all2 (i := 5) (j := 7) (by kernel_rfl) ?_ ?_
      · refine TB.of rfl ?_
        refine TO.s rfl rfl rfl (StepS.lookF (k := (a1, a2)) kmapGB_110_114_3_true (KeyOk.pair kunderlying_114_some_array_2_3 kunderlying_3_some_int_i64 ksizeB_3_1_true kscalB_3_true) kinfo_3_bind_zero_some_I_0 rfl (Ent.at 4 rfl) rfl (getD_vf (vf := (fun x : Int => I x)) (a0.2.2.2 (a1, a2)) 0)) ?_
        refine TA.back (.inr (fun _ s => s)) ?_
        refine TA.asL (L' := (Bx b7 114 [I a1, I a2] :: Bx b0_ 112 [u0_0, U a0.1, h0_1, h0_2, .map (some h0_3)] :: OwnS 3 1 h0_1 (a0.2.1.map cI) :: OwnS 3 1 h0_2 (a0.2.2.1.map cI) :: MF (fun k : Int × Int => .agg #[I k.1, I k.2]) (fun x : Int => I x) h0_3 (a0.2.2.2) :: L)) (listed' := #[true, true, true, true, true, true, false, false, false, false]) (by kernel_rfl) (by kernel_rfl) ?_
        refine TA.takeW 6 rfl rfl rfl rfl (StepS.ari rfl rfl rfl) (by kernel_rfl) (by kernel_rfl) (by kernel_rfl) rfl (.inr (fun _ s => s)) ?_
        refine TA.all1 (i := 7) (by kernel_rfl) ?_
        refine TB.of rfl ?_
        refine TO.ment (k := (a1, a2)) (z := 0) 4 kmapGB_110_114_3_true (KeyOk.pair kunderlying_114_some_array_2_3 kunderlying_3_some_int_i64 ksizeB_3_1_true kscalB_3_true) kinfo_3_bind_zero_some_I_0 rfl rfl rfl rfl fun sbq9_7_1 => ?_
        refine TA.back (.inl (by kernel_rfl)) ?_
        refine TA.asL (L' := (Bx b7 114 [I a1, I a2] :: Bx b0_ 112 [u0_0, U a0.1, h0_1, h0_2, .map (some h0_3)] :: OwnS 3 1 h0_1 (a0.2.1.map cI) :: OwnS 3 1 h0_2 (a0.2.2.1.map cI) :: MFS (fun k : Int × Int => .agg #[I k.1, I k.2]) (fun x : Int => I x) h0_3 (mupd a0.2.2.2 (a1, a2) ((a0.2.2.2 (a1, a2)).getD 0)) (a1, a2) sbq9_7_1 :: L)) (listed' := #[true, true, true, true, true, true, true, true, false, false]) (by kernel_rfl) (by kernel_rfl) ?_
        refine TA.takeW 8 rfl rfl rfl rfl (StepS.extract rfl rfl) (by kernel_rfl) (by kernel_rfl) (by kernel_rfl) rfl (.inl (by kernel_rfl)) ?_
        refine TA.all1 (i := 9) (by kernel_rfl) ?_
        refine TB.of rfl ?_
        refine TO.mest (k := (a1, a2)) (v := (w64 (((a0.2.2.2 (a1, a2)).getD 0) - 1))) 4 rfl rfl rfl rfl ?_
        rw [mupd_mupd]
        refine TA.back (.inl (by kernel_rfl)) ?_
        refine TA.asL (L' := (Bx b7 114 [I a1, I a2] :: Bx b0_ 112 [u0_0, U a0.1, h0_1, h0_2, .map (some h0_3)] :: OwnS 3 1 h0_1 (a0.2.1.map cI) :: OwnS 3 1 h0_2 (a0.2.2.1.map cI) :: MF (fun k : Int × Int => .agg #[I k.1, I k.2]) (fun x : Int => I x) h0_3 (mupd a0.2.2.2 (a1, a2) (w64 (((a0.2.2.2 (a1, a2)).getD 0) - 1))) :: L)) (listed' := #[true, true, true, true, true, true, true, true, true, true]) (by kernel_rfl) (by kernel_rfl) ?_
        cases hj11
        refine TA.nil (by kernel_rfl) fun a w e s => ?_
        exact ⟨e.sub (lk_of_allIn ⟨rfl, rfl, rfl, trivial⟩), s⟩
      · refine TB.of rfl ?_
        refine TO.ment (k := (a1, a2)) (z := 0) 4 kmapGB_110_114_3_true (KeyOk.pair kunderlying_114_some_array_2_3 kunderlying_3_some_int_i64 ksizeB_3_1_true kscalB_3_true) kinfo_3_bind_zero_some_I_0 rfl rfl rfl rfl fun sbq9_7_1 => ?_
        refine TA.back (.inl (by kernel_rfl)) ?_
        refine TA.asL (L' := (Bx b7 114 [I a1, I a2] :: Bx b0_ 112 [u0_0, U a0.1, h0_1, h0_2, .map (some h0_3)] :: OwnS 3 1 h0_1 (a0.2.1.map cI) :: OwnS 3 1 h0_2 (a0.2.2.1.map cI) :: MFS (fun k : Int × Int => .agg #[I k.1, I k.2]) (fun x : Int => I x) h0_3 (mupd a0.2.2.2 (a1, a2) ((a0.2.2.2 (a1, a2)).getD 0)) (a1, a2) sbq9_7_1 :: L)) (listed' := #[true, true, true, true, true, false, false, true, false, false]) (by kernel_rfl) (by kernel_rfl) ?_
        refine TA.takeW 8 rfl rfl rfl rfl (StepS.extract rfl rfl) (by kernel_rfl) (by kernel_rfl) (by kernel_rfl) rfl (.inl (by kernel_rfl)) ?_
        refine TA.all1 (i := 5) (by kernel_rfl) ?_
        refine TB.of rfl ?_
        refine TO.s rfl rfl rfl (StepS.lookS (k := (a1, a2)) (z := 0) kmapGB_110_114_3_true (KeyOk.pair kunderlying_114_some_array_2_3 kunderlying_3_some_int_i64 ksizeB_3_1_true kscalB_3_true) kinfo_3_bind_zero_some_I_0 rfl (Ent.at 4 rfl) rfl) ?_
        refine TA.back (.inl (by kernel_rfl)) ?_
        refine TA.asL (L' := (Bx b7 114 [I a1, I a2] :: Bx b0_ 112 [u0_0, U a0.1, h0_1, h0_2, .map (some h0_3)] :: OwnS 3 1 h0_1 (a0.2.1.map cI) :: OwnS 3 1 h0_2 (a0.2.2.1.map cI) :: MFS (fun k : Int × Int => .agg #[I k.1, I k.2]) (fun x : Int => I x) h0_3 (mupd a0.2.2.2 (a1, a2) ((a0.2.2.2 (a1, a2)).getD 0)) (a1, a2) sbq9_7_1 :: L)) (listed' := #[true, true, true, true, true, true, false, true, true, false]) (by kernel_rfl) (by kernel_rfl) ?_
        refine TA.takeW 6 rfl rfl rfl rfl (StepS.ari rfl rfl rfl) (by kernel_rfl) (by kernel_rfl) (by kernel_rfl) rfl (.inl (by kernel_rfl)) ?_
        refine TA.all1 (i := 9) (by kernel_rfl) ?_
        refine TB.of rfl ?_
        refine TO.mest (k := (a1, a2)) (v := (w64 (((a0.2.2.2 (a1, a2)).getD 0) - 1))) 4 rfl rfl rfl rfl ?_
        rw [mupd_mupd]
        refine TA.back (.inl (by kernel_rfl)) ?_
        refine TA.asL (L' := (Bx b7 114 [I a1, I a2] :: Bx b0_ 112 [u0_0, U a0.1, h0_1, h0_2, .map (some h0_3)] :: OwnS 3 1 h0_1 (a0.2.1.map cI) :: OwnS 3 1 h0_2 (a0.2.2.1.map cI) :: MF (fun k : Int × Int => .agg #[I k.1, I k.2]) (fun x : Int => I x) h0_3 (mupd a0.2.2.2 (a1, a2) (w64 (((a0.2.2.2 (a1, a2)).getD 0) - 1))) :: L)) (listed' := #[true, true, true, true, true, true, true, true, true, true]) (by kernel_rfl) (by kernel_rfl) ?_
        cases hj11
        refine TA.nil (by kernel_rfl) fun a w e s => ?_
        exact ⟨e.sub (lk_of_allIn ⟨rfl, rfl, rfl, trivial⟩), s⟩
    · intro a w ⟨he, hs⟩
      refine TC.use ?_ he hs
      refine TC.k ?_
      refine TC.region_tail 9 kfollows_mixedOrders_true (by kernel_rfl) ?_
      refine TS.s rfl rfl rfl (StepS.move rfl) ?_
      refine TS.s rfl rfl rfl (StepS.nilc rfl) ?_
      refine TS.s rfl rfl rfl (StepS.fld rfl kfieldB_112_1_1_true) ?_
      refine TS.s rfl rfl rfl (StepS.ldB rfl (Ent.at 1 rfl) kscalB_36_true rfl) ?_
      refine TS.s rfl rfl rfl (StepS.move rfl) ?_
      obtain ⟨k12, hk13, hm⟩ := bind_some hm
      refine TS.s rfl rfl rfl (StepS.shlk (m := 1#32) rfl rfl hk13) ?_
      refine TS.s rfl rfl rfl (StepS.bitU rfl rfl rfl) ?_
      refine TS.s rfl rfl rfl (StepS.nilc rfl) ?_
      refine TS.s rfl rfl rfl (StepS.fld rfl kfieldB_112_1_1_true) ?_
      refine TS.nil ?_
      refine TO.at ?_
      refine TO.stB (us := [U (a0.1 ||| ((1#32) <<< k12))]) 1 [u0_0, U (a0.1 ||| ((1#32) <<< k12)), h0_1, h0_2, .map (some h0_3)] rfl rfl rfl ksizeB_36_1_true rfl rfl rfl (by simp [Value.oneCell']) rfl ?_
      refine TO.code ?_
      refine TC.k ?_
      refine TC.k ?_
      refine TC.region ?_
      refine TO.s rfl rfl rfl (StepS.move rfl) ?_
      refine TO.s rfl rfl rfl (StepS.cmp rfl rfl rfl) ?_
      refine TO.s rfl rfl rfl (StepS.move rfl) ?_
      obtain ⟨b15, hj16, hm⟩ := bind_some hm
      refine TO.mid1 10 48 (.bool b15) ?_ ?_
      · refine bcase ((a2 != 0)) (fun hb14 => ?_) (fun hb14 => ?_)
        · replace hj16 := cond_t hb14 hj16
          refine TO.sw rfl rfl rfl hb14 rfl rfl (StepS.move rfl) ?_
          refine TO.sw rfl rfl rfl hb14 rfl rfl (StepS.nilc rfl) ?_
          refine TO.sw rfl rfl rfl hb14 rfl rfl (StepS.fld rfl kfieldB_112_3_3_true) ?_
          refine TO.sw rfl rfl rfl hb14 rfl rfl (StepS.ldB rfl (Ent.at 1 rfl) kscalB_22_true rfl) ?_
          refine TO.sw rfl rfl rfl hb14 rfl rfl (StepS.move rfl) ?_
          obtain ⟨x17, hx18, hj16⟩ := bind_some hj16
          refine TO.sw rfl rfl rfl hb14 rfl rfl (StepS.idx rfl rfl (OwnS.rd (Ent.at 3 rfl)) ksliceB_22_3_1_true (idx_spec hx18).1 (idxm_lt hx18)) ?_
          refine TO.sw rfl rfl rfl hb14 rfl rfl (StepS.ld0 rfl (OwnS.rd (Ent.at 3 rfl)) kscalB_3_true rfl (idxm hx18) rfl) ?_
          refine TO.sw rfl rfl rfl hb14 rfl rfl (StepS.move rfl) ?_
          refine TO.sw rfl rfl rfl hb14 rfl rfl (StepS.cmp rfl rfl rfl) ?_
          cases hj16
          refine TO.s rfl rfl rfl (StepS.pickT rfl hb14 rfl) ?_
          exact TO.up1 10 0 rfl rfl rfl rfl
        · replace hj16 := cond_f hb14 hj16
          cases hj16
          refine TO.skip rfl rfl rfl (skipF hb14) rfl rfl ?_
          refine TO.skip rfl rfl rfl (skipF hb14) rfl rfl ?_
          refine TO.skip rfl rfl rfl (skipF hb14) rfl rfl ?_
          refine TO.skip rfl rfl rfl (skipF hb14) rfl rfl ?_
          refine TO.skip rfl rfl rfl (skipF hb14) rfl rfl ?_
          refine TO.skip rfl rfl rfl (skipF hb14) rfl rfl ?_
          refine TO.skip rfl rfl rfl (skipF hb14) rfl rfl ?_
          refine TO.skip rfl rfl rfl (skipF hb14) rfl rfl ?_
          refine TO.skip rfl rfl rfl (skipF hb14) rfl rfl ?_
          refine TO.s rfl rfl rfl (StepS.pickF rfl hb14 rfl) ?_
          exact TO.up1 10 0 rfl rfl rfl rfl
      refine TO.code ?_
      refine TC.cond rfl (fun hc19 => ?_) (fun hc19 => ?_)
      · replace hm := cond_t hc19 hm
        refine TC.k ?_
        refine TC.region ?_
        refine TO.s rfl rfl rfl (StepS.move rfl) ?_
        refine TO.s rfl rfl rfl (StepS.nilc rfl) ?_
        refine TO.s rfl rfl rfl (StepS.fld rfl kfieldB_112_3_3_true) ?_
        refine TO.s rfl rfl rfl (StepS.ldB rfl (Ent.at 1 rfl) kscalB_22_true rfl) ?_
        refine TO.s rfl rfl rfl (StepS.move rfl) ?_
        refine TO.s rfl rfl rfl (StepS.move rfl) ?_
        obtain ⟨x20, hx21, hm⟩ := bind_some hm
        refine TO.s rfl rfl rfl (StepS.idx rfl rfl (OwnS.rd (Ent.at 3 rfl)) ksliceB_22_3_1_true (idx_spec hx21).1 (idxm_lt hx21)) ?_
        refine TO.stO (i := a2.toNat) (off := 0) (us := [I a1]) 3 a1 rfl rfl rfl ksizeB_3_1_true rfl rfl rfl (idx_spec hx21).2 rfl (by simp [Value.oneCell']) rfl ?_
        refine TO.code ?_
        refine TC.k ?_
        refine TC.region ?_
        refine TO.s rfl rfl rfl (StepS.assign rfl) ?_
        refine TO.code ?_
        cases hm
        refine TC.ret fun a w e s => ?_
        refine FRet.mk1 (P := Try.prog) (fn := Try.f89) (t := 6) e rfl rfl ?_
        refine ⟨_, _, rfl, ⟨h0_3, rfl, rfl⟩, ?_⟩
        refine s.mono fun _ s => ?_
        replace s := Sat.front 4 rfl s
        replace s := Sat.front 4 rfl s
        replace s := Sat.front 4 rfl s
        replace s := Sat.front 4 rfl s
        replace s := Sat.erase 4 s
        exact s
      · replace hm := cond_f hc19 hm
        refine TC.skipk ?_
        refine TC.k ?_
        refine TC.region ?_
        refine TO.s rfl rfl rfl (StepS.move rfl) ?_
        refine TO.s rfl rfl rfl (StepS.nilc rfl) ?_
        refine TO.s rfl rfl rfl (StepS.fld rfl kfieldB_112_2_2_true) ?_
        refine TO.s rfl rfl rfl (StepS.ldB rfl (Ent.at 1 rfl) kscalB_22_true rfl) ?_
        refine TO.s rfl rfl rfl (StepS.move rfl) ?_
        obtain ⟨x22, hx23, hm⟩ := bind_some hm
        refine TO.s rfl rfl rfl (StepS.idx rfl rfl (OwnS.rd (Ent.at 2 rfl)) ksliceB_22_3_1_true (idx_spec hx23).1 (idxm_lt hx23)) ?_
        refine TO.s rfl rfl rfl (StepS.ld0 rfl (OwnS.rd (Ent.at 2 rfl)) kscalB_3_true rfl (idxm hx23) rfl) ?_
        refine TO.s rfl rfl rfl (StepS.ari rfl rfl rfl) ?_
        obtain ⟨x24, hx25, hm⟩ := bind_some hm
        refine TO.s rfl rfl rfl (StepS.idx rfl rfl (OwnS.rd (Ent.at 2 rfl)) ksliceB_22_3_1_true (idx_spec hx25).1 (idxm_lt hx25)) ?_
        refine TO.stO (i := a1.toNat) (off := 0) (us := [I (w64 (x22 - 1))]) 2 (w64 (x22 - 1)) rfl rfl rfl ksizeB_3_1_true rfl rfl rfl (idx_spec hx25).2 rfl (by simp [Value.oneCell']) rfl ?_
        refine TO.code ?_
        refine TC.k ?_
        refine TC.region ?_
        refine TO.s rfl rfl rfl (StepS.move rfl) ?_
        refine TO.s rfl rfl rfl (StepS.move rfl) ?_
        refine TO.ghost (fun _ s => Sat.front 3 rfl s) ?_
        refine TO.ghost (fun _ s => Sat.front 3 rfl s) ?_
        refine TO.ghost (fun _ s => Sat.front 3 rfl s) ?_
        obtain ⟨r26, hc27, hm⟩ := bind_some hm
        refine TO.callO kcallB_90_true rfl rfl rfl (fun _ st => C90 (a0 := ((a0.1 ||| ((1#32) <<< k12)), a0.2.1.set a1.toNat (w64 (x22 - 1)), a0.2.2.1))  hc27 st) ?_
        rintro _ _ ⟨rfl, rfl⟩
        refine TO.code ?_
        refine TC.k ?_
        refine TC.region ?_
        refine TO.s rfl rfl rfl (StepS.assign rfl) ?_
        refine TO.code ?_
        cases hm
        refine TC.ret fun a w e s => ?_
        refine FRet.mk1 (P := Try.prog) (fn := Try.f89) (t := 6) e rfl rfl ?_
        refine ⟨_, _, rfl, ⟨h0_3, rfl, rfl⟩, ?_⟩
        refine s.mono fun _ s => ?_
        replace s := Sat.front 4 rfl s
        replace s := Sat.front 3 rfl s
        replace s := Sat.front 3 rfl s
        replace s := Sat.front 3 rfl s
        replace s := Sat.erase 4 s
        exact s

set_option maxRecDepth 100000 in
theorem C53 {B : World} {L : List HP} {a0 : Int × (BitVec 32) × (List Int) × (List Int) × ((Int × Int) → Option Int)} {a1 : Int × Int × Int × Int} {b0_ : Nat} {h0_1 : Value} {h0_2 : Value} {h0_3 : Nat} {r0 : Int} {s0 : Int × (BitVec 32) × (List Int) × (List Int) × ((Int × Int) → Option Int)} (hm : F53 a0 a1 = some (r0, s0)) {w : World} (st : St B (Bx b0_ 112 [I a0.1, U a0.2.1, h0_1, h0_2, .map (some h0_3)] :: OwnS 3 1 h0_1 (a0.2.2.1.map cI) :: OwnS 3 1 h0_2 (a0.2.2.2.1.map cI) :: MF (fun k : Int × Int => .agg #[I k.1, I k.2]) (fun x : Int => I x) h0_3 (a0.2.2.2.2) :: L) w) : Calls Try.prog 53 #[.pointer (some ⟨b0_, 0, none⟩), .agg (cTiiii a1).toArray] w (fun e w' => ∃ v M, e = .returned v ∧ (∃ (qr1 : Nat), v = I r0 ∧ M = (Bx b0_ 112 [I s0.1, U s0.2.1, h0_1, h0_2, .map (some qr1)] :: OwnS 3 1 h0_1 (s0.2.2.1.map cI) :: OwnS 3 1 h0_2 (s0.2.2.2.1.map cI) :: MF (fun k : Int × Int => .agg #[I k.1, I k.2]) (fun x : Int => I x) qr1 (s0.2.2.2.2) :: L)) ∧ St B M w') := by
  refine calls_of (N := 100) (L := (Bx b0_ 112 [I a0.1, U a0.2.1, h0_1, h0_2, .map (some h0_3)] :: OwnS 3 1 h0_1 (a0.2.2.1.map cI) :: OwnS 3 1 h0_2 (a0.2.2.2.1.map cI) :: MF (fun k : Int × Int => .agg #[I k.1, I k.2]) (fun x : Int => I x) h0_3 (a0.2.2.2.2) :: L)) (args := [.pointer (some ⟨b0_, 0, none⟩), .agg (cTiiii a1).toArray]) Try.func53 rfl rfl rfl ?_ st
  dsimp only [F53] at hm
  refine TC.k ?_
  refine TC.region ?_
  refine TO.box (cs := [.pointer (some ⟨b0_, 0, none⟩)]) rfl rfl rfl fun b7 => ?_
  refine TO.box (cs := [I a1.1, I a1.2.1, I a1.2.2.1, I a1.2.2.2]) rfl rfl rfl fun b8 => ?_
  refine TO.s rfl rfl rfl (StepS.assign rfl) ?_
  refine TO.code ?_
  refine TC.k ?_
  refine TC.region ?_
  refine TO.s rfl rfl rfl (StepS.mkfn rfl) ?_
  refine TO.s rfl rfl rfl (StepS.assign rfl) ?_
  refine TO.code ?_
  refine TC.k ?_
  refine TC.block ?_
  refine TC.k ?_
  refine TC.region ?_
  refine TO.s rfl rfl rfl (StepS.fld rfl kfieldB_106_0_0_true) ?_
  refine TO.s rfl rfl rfl (StepS.ldB rfl (Ent.at 0 rfl) kscalB_3_true rfl) ?_
  refine TO.s rfl rfl rfl (StepS.cmp rfl rfl rfl) ?_
  refine TO.s rfl rfl rfl (StepS.move rfl) ?_
  refine TO.mid1 4 15 (.bool ((decide (a1.1 < 1)) || (decide (a1.1 > 3)))) ?_ ?_
  · refine bcase ((decide (a1.1 < 1))) (fun hb9 => ?_) (fun hb9 => ?_)
    · refine TO.skip rfl rfl rfl (skipT hb9) rfl rfl ?_
      refine TO.skip rfl rfl rfl (skipT hb9) rfl rfl ?_
      refine TO.skip rfl rfl rfl (skipT hb9) rfl rfl ?_
      refine TO.s rfl rfl rfl (StepS.pickT rfl hb9 rfl) ?_
      exact TO.up1 4 0 rfl rfl (by rw [hb9]; rfl) rfl
    · refine TO.sw rfl rfl rfl hb9 rfl rfl (StepS.fld rfl kfieldB_106_0_0_true) ?_
      refine TO.sw rfl rfl rfl hb9 rfl rfl (StepS.ldB rfl (Ent.at 0 rfl) kscalB_3_true rfl) ?_
      refine TO.sw rfl rfl rfl hb9 rfl rfl (StepS.cmp rfl rfl rfl) ?_
      refine TO.s rfl rfl rfl (StepS.pickF rfl hb9 rfl) ?_
      exact TO.up1 4 0 rfl rfl (by rw [hb9]; rfl) rfl
  refine TO.s rfl rfl rfl (StepS.assign rfl) ?_
  refine TO.code ?_
  refine TC.cond rfl (fun hc10 => ?_) (fun hc10 => ?_)
  · replace hm := cond_t hc10 hm
    refine TC.k ?_
    refine TC.region ?_
    refine TO.s rfl rfl rfl (StepS.assign rfl) ?_
    refine TO.code ?_
    cases hm
    refine TC.ret fun a w e s => ?_
    refine FRet.mk1 (P := Try.prog) (fn := Try.f53) (t := 4) e rfl rfl ?_
    refine ⟨_, _, rfl, ⟨h0_3, rfl, rfl⟩, ?_⟩
    refine s.mono fun _ s => ?_
    replace s := Sat.front 5 rfl s
    replace s := Sat.front 5 rfl s
    replace s := Sat.front 5 rfl s
    replace s := Sat.front 5 rfl s
    replace s := Sat.erase 4 s
    replace s := Sat.erase 4 s
    exact s
  · replace hm := cond_f hc10 hm
    refine TC.k ?_
    refine TC.region ?_
    refine TO.s rfl rfl rfl (StepS.move rfl) ?_
    refine TO.s rfl rfl rfl (StepS.fld rfl kfieldB_106_1_1_true) ?_
    refine TO.s rfl rfl rfl (StepS.ldB rfl (Ent.at 0 rfl) kscalB_3_true rfl) ?_
    obtain ⟨r11, hc12, hm⟩ := bind_some hm
    refine TO.q rfl rfl rfl (StepQ.callC kcallB_88_true rfl rfl rfl (fun _ st => C88 (Ent.at 1 rfl) (Ent.at 2 rfl) hc12 st)) ?_
    refine TO.s rfl rfl rfl (StepS.move rfl) ?_
    obtain ⟨b14, hj15, hm⟩ := bind_some hm
    refine TO.mid1 17 38 (.bool b14) ?_ ?_
    · refine bcase (r11) (fun hb13 => ?_) (fun hb13 => ?_)
      · replace hj15 := cond_t hb13 hj15
        cases hj15
        refine TO.skip rfl rfl rfl (skipT hb13) rfl rfl ?_
        refine TO.skip rfl rfl rfl (skipT hb13) rfl rfl ?_
        refine TO.skip rfl rfl rfl (skipT hb13) rfl rfl ?_
        refine TO.skip rfl rfl rfl (skipT hb13) rfl rfl ?_
        refine TO.skip rfl rfl rfl skipU rfl rfl ?_
        refine TO.skip rfl rfl rfl skipU rfl rfl ?_
        refine TO.skip rfl rfl rfl skipU rfl rfl ?_
        refine TO.skip rfl rfl rfl skipU rfl rfl ?_
        refine TO.skip rfl rfl rfl skipU rfl rfl ?_
        refine TO.skip rfl rfl rfl skipU rfl rfl ?_
        refine TO.skip rfl rfl rfl skipU rfl rfl ?_
        refine TO.skip rfl rfl rfl skipU rfl rfl ?_
        refine TO.skip rfl rfl rfl skipU rfl rfl ?_
        refine TO.skip rfl rfl rfl skipU rfl rfl ?_
        refine TO.skip rfl rfl rfl skipU rfl rfl ?_
        refine TO.skip rfl rfl rfl (skipT hb13) rfl rfl ?_
        refine TO.s rfl rfl rfl (StepS.pickT rfl hb13 rfl) ?_
        exact TO.up1 17 0 rfl rfl rfl rfl
      · replace hj15 := cond_f hb13 hj15
        refine TO.sw rfl rfl rfl hb13 rfl rfl (StepS.fld rfl kfieldB_106_0_0_true) ?_
        refine TO.sw rfl rfl rfl hb13 rfl rfl (StepS.ldB rfl (Ent.at 0 rfl) kscalB_3_true rfl) ?_
        refine TO.sw rfl rfl rfl hb13 rfl rfl (StepS.cmp rfl rfl rfl) ?_
        refine TO.sw rfl rfl rfl hb13 rfl rfl (StepS.move rfl) ?_
        obtain ⟨b17, hj18, hj15⟩ := bind_some hj15
        refine TO.mid1 12 37 (.bool b17) ?_ ?_
        · refine bcase ((a1.1 != 3)) (fun hb16 => ?_) (fun hb16 => ?_)
          · replace hj18 := cond_t hb16 hj18
            refine TO.sw rfl rfl rfl hb16 rfl rfl (StepS.move rfl) ?_
            refine TO.sw rfl rfl rfl hb16 rfl rfl (StepS.fld rfl kfieldB_106_2_2_true) ?_
            refine TO.sw rfl rfl rfl hb16 rfl rfl (StepS.ldB rfl (Ent.at 0 rfl) kscalB_3_true rfl) ?_
            obtain ⟨r19, hc20, hj18⟩ := bind_some hj18
            refine TO.qw rfl rfl rfl hb16 rfl rfl (StepQ.callC kcallB_88_true rfl rfl rfl (fun _ st => C88 (Ent.at 1 rfl) (Ent.at 2 rfl) hc20 st)) ?_
            refine TO.sw rfl rfl rfl hb16 rfl rfl (StepS.move rfl) ?_
            refine TO.mid1 6 36 (.bool (r19 || (a1.2.1 == a1.2.2.1))) ?_ ?_
            · refine bcase (r19) (fun hb21 => ?_) (fun hb21 => ?_)
              · refine TO.skip rfl rfl rfl (skipT hb21) rfl rfl ?_
                refine TO.skip rfl rfl rfl (skipT hb21) rfl rfl ?_
                refine TO.skip rfl rfl rfl (skipT hb21) rfl rfl ?_
                refine TO.skip rfl rfl rfl (skipT hb21) rfl rfl ?_
                refine TO.skip rfl rfl rfl (skipT hb21) rfl rfl ?_
                refine TO.sw rfl rfl rfl hb16 rfl rfl (StepS.pickT rfl hb21 rfl) ?_
                exact TO.up1 6 0 rfl rfl (by rw [hb21]; rfl) rfl
              · refine TO.sw rfl rfl rfl hb21 rfl rfl (StepS.fld rfl kfieldB_106_1_1_true) ?_
                refine TO.sw rfl rfl rfl hb21 rfl rfl (StepS.ldB rfl (Ent.at 0 rfl) kscalB_3_true rfl) ?_
                refine TO.sw rfl rfl rfl hb21 rfl rfl (StepS.fld rfl kfieldB_106_2_2_true) ?_
                refine TO.sw rfl rfl rfl hb21 rfl rfl (StepS.ldB rfl (Ent.at 0 rfl) kscalB_3_true rfl) ?_
                refine TO.sw rfl rfl rfl hb21 rfl rfl (StepS.cmp rfl rfl rfl) ?_
                refine TO.sw rfl rfl rfl hb16 rfl rfl (StepS.pickF rfl hb21 rfl) ?_
                exact TO.up1 6 0 rfl rfl (by rw [hb21]; rfl) rfl
            cases hj18
            refine TO.sw rfl rfl rfl hb13 rfl rfl (StepS.pickT rfl hb16 rfl) ?_
            exact TO.up1 7 0 rfl rfl rfl rfl
          · replace hj18 := cond_f hb16 hj18
            cases hj18
            refine TO.skip rfl rfl rfl (skipF hb16) rfl rfl ?_
            refine TO.skip rfl rfl rfl (skipF hb16) rfl rfl ?_
            refine TO.skip rfl rfl rfl (skipF hb16) rfl rfl ?_
            refine TO.skip rfl rfl rfl (skipF hb16) rfl rfl ?_
            refine TO.skip rfl rfl rfl (skipF hb16) rfl rfl ?_
            refine TO.skip rfl rfl rfl skipU rfl rfl ?_
            refine TO.skip rfl rfl rfl skipU rfl rfl ?_
            refine TO.skip rfl rfl rfl skipU rfl rfl ?_
            refine TO.skip rfl rfl rfl skipU rfl rfl ?_
            refine TO.skip rfl rfl rfl skipU rfl rfl ?_
            refine TO.skip rfl rfl rfl (skipF hb16) rfl rfl ?_
            refine TO.sw rfl rfl rfl hb13 rfl rfl (StepS.pickF rfl hb16 rfl) ?_
            exact TO.up1 12 0 rfl rfl rfl rfl
        cases hj15
        refine TO.s rfl rfl rfl (StepS.pickF rfl hb13 rfl) ?_
        exact TO.up1 6 0 rfl rfl rfl rfl
    refine TO.s rfl rfl rfl (StepS.assign rfl) ?_
    refine TO.code ?_
    refine TC.cond rfl (fun hc22 => ?_) (fun hc22 => ?_)
    · replace hm := cond_t hc22 hm
      refine TC.k ?_
      refine TC.region ?_
      refine TO.s rfl rfl rfl (StepS.assign rfl) ?_
      refine TO.code ?_
      cases hm
      refine TC.ret fun a w e s => ?_
      refine FRet.mk1 (P := Try.prog) (fn := Try.f53) (t := 4) e rfl rfl ?_
      refine ⟨_, _, rfl, ⟨h0_3, rfl, rfl⟩, ?_⟩
      refine s.mono fun _ s => ?_
      replace s := Sat.front 5 rfl s
      replace s := Sat.front 5 rfl s
      replace s := Sat.front 5 rfl s
      replace s := Sat.front 5 rfl s
      replace s := Sat.erase 4 s
      replace s := Sat.erase 4 s
      exact s
    · replace hm := cond_f hc22 hm
      refine TC.k ?_
      refine TC.region ?_
      refine TO.s rfl rfl rfl (StepS.fld rfl kfieldB_106_0_0_true) ?_
      refine TO.s rfl rfl rfl (StepS.ldB rfl (Ent.at 0 rfl) kscalB_3_true rfl) ?_
      refine TO.s rfl rfl rfl (StepS.cmp rfl rfl rfl) ?_
      refine TO.s rfl rfl rfl (StepS.assign rfl) ?_
      refine TO.code ?_
      refine TC.cond rfl (fun hc23 => ?_) (fun hc23 => ?_)
      · replace hm := cond_t hc23 hm
        refine TC.k ?_
        refine TC.region ?_
        refine TO.s rfl rfl rfl (StepS.ldB rfl (Ent.at 1 rfl) kscalB_109_true rfl) ?_
        refine TO.s rfl rfl rfl (StepS.fld rfl kfieldB_106_1_1_true) ?_
        refine TO.s rfl rfl rfl (StepS.ldB rfl (Ent.at 0 rfl) kscalB_3_true rfl) ?_
        refine TO.s rfl rfl rfl (StepS.fld rfl kfieldB_106_2_2_true) ?_
        refine TO.s rfl rfl rfl (StepS.ldB rfl (Ent.at 0 rfl) kscalB_3_true rfl) ?_
        refine TO.ghost (fun _ s => Sat.front 5 rfl s) ?_
        refine TO.ghost (fun _ s => Sat.front 5 rfl s) ?_
        refine TO.ghost (fun _ s => Sat.front 5 rfl s) ?_
        refine TO.ghost (fun _ s => Sat.front 5 rfl s) ?_
        obtain ⟨⟨r24, r25⟩, hc26, hm⟩ := bind_some hm
        refine TO.callO kcallB_89_true rfl rfl rfl (fun _ st => C89 (a0 := (a0.2.1, a0.2.2.1, a0.2.2.2.1, a0.2.2.2.2))  hc26 st) ?_
        rintro _ _ ⟨r29, rfl, rfl⟩
        refine TO.s rfl rfl rfl (StepS.assign rfl) ?_
        refine TO.code ?_
        cases hm
        refine TC.ret fun a w e s => ?_
        refine FRet.mk1 (P := Try.prog) (fn := Try.f53) (t := 4) e rfl rfl ?_
        refine ⟨_, _, rfl, ⟨r29, rfl, rfl⟩, ?_⟩
        refine s.mono fun _ s => ?_
        replace s := Sat.front 3 rfl s
        replace s := Sat.front 3 rfl s
        replace s := Sat.front 3 rfl s
        replace s := Sat.front 3 rfl s
        replace s := Sat.erase 4 s
        replace s := Sat.erase 4 s
        exact s
      · replace hm := cond_f hc23 hm
        refine TC.k ?_
        refine TC.region_still kfollows_mixedOrders_true (by kernel_rfl) ?_
        refine TS.s rfl rfl rfl (StepS.ldB rfl (Ent.at 1 rfl) kscalB_109_true rfl) ?_
        refine TS.s rfl rfl rfl (StepS.nilc rfl) ?_
        refine TS.s rfl rfl rfl (StepS.fld rfl kfieldB_112_1_1_true) ?_
        refine TS.s rfl rfl rfl (StepS.ldB rfl (Ent.at 2 rfl) kscalB_36_true rfl) ?_
        refine TS.s rfl rfl rfl (StepS.fld rfl kfieldB_106_1_1_true) ?_
        refine TS.s rfl rfl rfl (StepS.ldB rfl (Ent.at 0 rfl) kscalB_3_true rfl) ?_
        obtain ⟨k31, hk32, hm⟩ := bind_some hm
        refine TS.s rfl rfl rfl (StepS.shrk rfl rfl hk32) ?_
        refine TS.s rfl rfl rfl (StepS.bitU (n := 1#32) rfl rfl rfl) ?_
        refine TS.s rfl rfl rfl (StepS.cmpU (n := 0#32) rfl rfl rfl) ?_
        refine TS.s rfl rfl rfl (StepS.assign rfl) ?_
        refine TS.code ?_
        refine TC.cond rfl (fun hc33 => ?_) (fun hc33 => ?_)
        · replace hm := cond_t hc33 hm
          refine TC.k ?_
          refine TC.region ?_
          refine TO.s rfl rfl rfl (StepS.assign rfl) ?_
          refine TO.code ?_
          cases hm
          refine TC.ret fun a w e s => ?_
          refine FRet.mk1 (P := Try.prog) (fn := Try.f53) (t := 4) e rfl rfl ?_
          refine ⟨_, _, rfl, ⟨h0_3, rfl, rfl⟩, ?_⟩
          refine s.mono fun _ s => ?_
          replace s := Sat.front 5 rfl s
          replace s := Sat.front 5 rfl s
          replace s := Sat.front 5 rfl s
          replace s := Sat.front 5 rfl s
          replace s := Sat.erase 4 s
          replace s := Sat.erase 4 s
          exact s
        · replace hm := cond_f hc33 hm
          refine TC.k ?_
          refine TC.region ?_
          refine TO.s rfl rfl rfl (StepS.fld rfl kfieldB_106_0_0_true) ?_
          refine TO.s rfl rfl rfl (StepS.ldB rfl (Ent.at 0 rfl) kscalB_3_true rfl) ?_
          refine TO.s rfl rfl rfl (StepS.cmp rfl rfl rfl) ?_
          refine TO.s rfl rfl rfl (StepS.assign rfl) ?_
          refine TO.code ?_
          refine TC.cond rfl (fun hc34 => ?_) (fun hc34 => ?_)
          · replace hm := cond_t hc34 hm
            refine TC.k ?_
            refine TC.region_tail 10 kfollows_mixedOrders_true (by kernel_rfl) ?_
            refine TS.s rfl rfl rfl (StepS.ldB rfl (Ent.at 1 rfl) kscalB_109_true rfl) ?_
            refine TS.s rfl rfl rfl (StepS.nilc rfl) ?_
            refine TS.s rfl rfl rfl (StepS.fld rfl kfieldB_112_1_1_true) ?_
            refine TS.s rfl rfl rfl (StepS.ldB rfl (Ent.at 2 rfl) kscalB_36_true rfl) ?_
            refine TS.s rfl rfl rfl (StepS.fld rfl kfieldB_106_1_1_true) ?_
            refine TS.s rfl rfl rfl (StepS.ldB rfl (Ent.at 0 rfl) kscalB_3_true rfl) ?_
            obtain ⟨k35, hk36, hm⟩ := bind_some hm
            refine TS.s rfl rfl rfl (StepS.shlk (m := 1#32) rfl rfl hk36) ?_
            refine TS.s rfl rfl rfl (StepS.bitU rfl rfl rfl) ?_
            refine TS.s rfl rfl rfl (StepS.nilc rfl) ?_
            refine TS.s rfl rfl rfl (StepS.fld rfl kfieldB_112_1_1_true) ?_
            refine TS.nil ?_
            refine TO.at ?_
            refine TO.stB (us := [U (a0.2.1 &&& ~~~((1#32) <<< k35))]) 2 [I a0.1, U (a0.2.1 &&& ~~~((1#32) <<< k35)), h0_1, h0_2, .map (some h0_3)] rfl rfl rfl ksizeB_36_1_true rfl rfl rfl (by simp [Value.oneCell']) rfl ?_
            refine TO.code ?_
            refine TC.k ?_
            refine TC.region ?_
            refine TO.s rfl rfl rfl (StepS.ldB rfl (Ent.at 1 rfl) kscalB_109_true rfl) ?_
            refine TO.s rfl rfl rfl (StepS.fld rfl kfieldB_106_1_1_true) ?_
            refine TO.s rfl rfl rfl (StepS.ldB rfl (Ent.at 0 rfl) kscalB_3_true rfl) ?_
            refine TO.ghost (fun _ s => Sat.front 4 rfl s) ?_
            refine TO.ghost (fun _ s => Sat.front 4 rfl s) ?_
            refine TO.ghost (fun _ s => Sat.front 4 rfl s) ?_
            obtain ⟨r37, hc38, hm⟩ := bind_some hm
            refine TO.callO kcallB_90_true rfl rfl rfl (fun _ st => C90 (a0 := ((a0.2.1 &&& ~~~((1#32) <<< k35)), a0.2.2.1, a0.2.2.2.1))  hc38 st) ?_
            rintro _ _ ⟨rfl, rfl⟩
            refine TO.code ?_
            refine TC.k ?_
            refine TC.region ?_
            refine TO.s rfl rfl rfl (StepS.assign rfl) ?_
            refine TO.code ?_
            cases hm
            refine TC.ret fun a w e s => ?_
            refine FRet.mk1 (P := Try.prog) (fn := Try.f53) (t := 4) e rfl rfl ?_
            refine ⟨_, _, rfl, ⟨h0_3, rfl, rfl⟩, ?_⟩
            refine s.mono fun _ s => ?_
            replace s := Sat.front 5 rfl s
            replace s := Sat.front 3 rfl s
            replace s := Sat.front 3 rfl s
            replace s := Sat.front 3 rfl s
            replace s := Sat.erase 4 s
            replace s := Sat.erase 4 s
            exact s
          · replace hm := cond_f hc34 hm
            refine TC.skipk ?_
            refine TC.k ?_
            obtain ⟨y42, hj43, hm⟩ := bind_some hm
            first | refine TC.cutM (fun a w => Mid 100 B [(2, .pointer (some ⟨b7, 0, none⟩)), (3, .pointer (some ⟨b8, 0, none⟩))] (Bx b8 106 [I a1.1, I a1.2.1, I a1.2.2.1, I a1.2.2.2] :: Bx b7 109 [.pointer (some ⟨b0_, 0, none⟩)] :: Bx b0_ 112 [I a0.1, U a0.2.1, h0_1, h0_2, .map (some h0_3)] :: OwnS 3 1 h0_1 (a0.2.2.1.map cI) :: OwnS 3 1 h0_2 (a0.2.2.2.1.map cI) :: MF (fun k : Int × Int => .agg #[I k.1, I k.2]) (fun x : Int => I x) h0_3 (y42) :: L) a w) ?_ ?_ | refine TC.cutX (fun a w => Mid 100 B [(2, .pointer (some ⟨b7, 0, none⟩)), (3, .pointer (some ⟨b8, 0, none⟩))] (Bx b8 106 [I a1.1, I a1.2.1, I a1.2.2.1, I a1.2.2.2] :: Bx b7 109 [.pointer (some ⟨b0_, 0, none⟩)] :: Bx b0_ 112 [I a0.1, U a0.2.1, h0_1, h0_2, .map (some h0_3)] :: OwnS 3 1 h0_1 (a0.2.2.1.map cI) :: OwnS 3 1 h0_2 (a0.2.2.2.1.map cI) :: MF (fun k : Int × Int => .agg #[I k.1, I k.2]) (fun x : Int => I x) h0_3 (y42) :: L) a w) ?_ ?_
            · refine TC.region_any (Bx b8 106 [I a1.1, I a1.2.1, I a1.2.2.1, I a1.2.2.2] :: Bx b7 109 [.pointer (some ⟨b0_, 0, none⟩)] :: Bx b0_ 112 [I a0.1, U a0.2.1, h0_1, h0_2, .map (some h0_3)] :: OwnS 3 1 h0_1 (a0.2.2.1.map cI) :: OwnS 3 1 h0_2 (a0.2.2.2.1.map cI) :: MF (fun k : Int × Int => .agg #[I k.1, I k.2]) (fun x : Int => I x) h0_3 (a0.2.2.2.2) :: L) 11 14 kfollows_mixedOrders_true rfl ?_
              refine TA.take 0 rfl rfl rfl rfl (StepS.ldB rfl (Ent.at 1 rfl) kscalB_109_true rfl) (by kernel_rfl) (by kernel_rfl) (by kernel_rfl) (by kernel_rfl) (by kernel_rfl) (fun _ s => s) ?_
              refine TA.takeW 1 rfl rfl rfl rfl (StepS.nilc rfl) (by kernel_rfl) (by kernel_rfl) (by kernel_rfl) rfl (.inr (fun _ s => s)) ?_
              refine TA.takeW 2 rfl rfl rfl rfl (StepS.fld rfl kfieldB_112_4_4_true) (by kernel_rfl) (by kernel_rfl) (by kernel_rfl) rfl (.inr (fun _ s => s)) ?_
              refine TA.take 3 rfl rfl rfl rfl (StepS.ldB rfl (Ent.at 2 rfl) kscalB_110_true rfl) (by kernel_rfl) (by kernel_rfl) (by kernel_rfl) (by kernel_rfl) (by kernel_rfl) (fun _ s => s) ?_
              refine TA.takeW 4 rfl rfl rfl rfl (StepS.fld rfl kfieldB_106_1_1_true) (by kernel_rfl) (by kernel_rfl) (by kernel_rfl) rfl (.inr (fun _ s => s)) ?_
              refine TA.take 5 rfl rfl rfl rfl (StepS.ldB rfl (Ent.at 0 rfl) kscalB_3_true rfl) (by kernel_rfl) (by kernel_rfl) (by kernel_rfl) (by kernel_rfl) (by kernel_rfl) (fun _ s => s) ?_
              refine TA.takeW 6 rfl rfl rfl rfl (StepS.fld rfl kfieldB_106_2_2_true) (by kernel_rfl) (by kernel_rfl) (by kernel_rfl) rfl (.inr (fun _ s => s)) ?_
              refine TA.take 7 rfl rfl rfl rfl (StepS.ldB rfl (Ent.at 0 rfl) kscalB_3_true rfl) (by kernel_rfl) (by kernel_rfl) (by kernel_rfl) (by kernel_rfl) (by kernel_rfl) (fun _ s => s) ?_
              refine TA.takeW 8 rfl rfl rfl rfl (StepS.build (cs := [I a1.2.1, I a1.2.2.1]) rfl (by kernel_rfl)) (by kernel_rfl) (by kernel_rfl) (by kernel_rfl) rfl (.inr (fun _ s => s)) ?_
              refine TA.all2 (i := 9) (j := 11) (by kernel_rfl) ?_ ?_
              · refine TB.of rfl ?_
                refine TO.s rfl rfl rfl (StepS.lookF (k := (a1.2.1, a1.2.2.1)) kmapGB_110_114_3_true (KeyOk.pair kunderlying_114_some_array_2_3 kunderlying_3_some_int_i64 ksizeB_3_1_true kscalB_3_true) kinfo_3_bind_zero_some_I_0 rfl (Ent.at 5 rfl) rfl (getD_vf (vf := (fun x : Int => I x)) (a0.2.2.2.2 (a1.2.1, a1.2.2.1)) 0)) ?_
                refine TA.back (.inr (fun _ s => s)) ?_
                refine TA.asL (L' := (Bx b8 106 [I a1.1, I a1.2.1, I a1.2.2.1, I a1.2.2.2] :: Bx b7 109 [.pointer (some ⟨b0_, 0, none⟩)] :: Bx b0_ 112 [I a0.1, U a0.2.1, h0_1, h0_2, .map (some h0_3)] :: OwnS 3 1 h0_1 (a0.2.2.1.map cI) :: OwnS 3 1 h0_2 (a0.2.2.2.1.map cI) :: MF (fun k : Int × Int => .agg #[I k.1, I k.2]) (fun x : Int => I x) h0_3 (a0.2.2.2.2) :: L)) (listed' := #[true, true, true, true, true, true, true, true, true, true, false, false, false, false]) (by kernel_rfl) (by kernel_rfl) ?_
                refine TA.takeW 10 rfl rfl rfl rfl (StepS.ari rfl rfl rfl) (by kernel_rfl) (by kernel_rfl) (by kernel_rfl) rfl (.inr (fun _ s => s)) ?_
                refine TA.all1 (i := 11) (by kernel_rfl) ?_
                refine TB.of rfl ?_
                refine TO.ment (k := (a1.2.1, a1.2.2.1)) (z := 0) 5 kmapGB_110_114_3_true (KeyOk.pair kunderlying_114_some_array_2_3 kunderlying_3_some_int_i64 ksizeB_3_1_true kscalB_3_true) kinfo_3_bind_zero_some_I_0 rfl rfl rfl rfl fun sbq41_11_1 => ?_
                refine TA.back (.inl (by kernel_rfl)) ?_
                refine TA.asL (L' := (Bx b8 106 [I a1.1, I a1.2.1, I a1.2.2.1, I a1.2.2.2] :: Bx b7 109 [.pointer (some ⟨b0_, 0, none⟩)] :: Bx b0_ 112 [I a0.1, U a0.2.1, h0_1, h0_2, .map (some h0_3)] :: OwnS 3 1 h0_1 (a0.2.2.1.map cI) :: OwnS 3 1 h0_2 (a0.2.2.2.1.map cI) :: MFS (fun k : Int × Int => .agg #[I k.1, I k.2]) (fun x : Int => I x) h0_3 (mupd a0.2.2.2.2 (a1.2.1, a1.2.2.1) ((a0.2.2.2.2 (a1.2.1, a1.2.2.1)).getD 0)) (a1.2.1, a1.2.2.1) sbq41_11_1 :: L)) (listed' := #[true, true, true, true, true, true, true, true, true, true, true, true, false, false]) (by kernel_rfl) (by kernel_rfl) ?_
                refine TA.takeW 12 rfl rfl rfl rfl (StepS.extract rfl rfl) (by kernel_rfl) (by kernel_rfl) (by kernel_rfl) rfl (.inl (by kernel_rfl)) ?_
                refine TA.all1 (i := 13) (by kernel_rfl) ?_
                refine TB.of rfl ?_
                refine TO.mest (k := (a1.2.1, a1.2.2.1)) (v := (w64 (((a0.2.2.2.2 (a1.2.1, a1.2.2.1)).getD 0) + 1))) 5 rfl rfl rfl rfl ?_
                rw [mupd_mupd]
                refine TA.back (.inl (by kernel_rfl)) ?_
                refine TA.asL (L' := (Bx b8 106 [I a1.1, I a1.2.1, I a1.2.2.1, I a1.2.2.2] :: Bx b7 109 [.pointer (some ⟨b0_, 0, none⟩)] :: Bx b0_ 112 [I a0.1, U a0.2.1, h0_1, h0_2, .map (some h0_3)] :: OwnS 3 1 h0_1 (a0.2.2.1.map cI) :: OwnS 3 1 h0_2 (a0.2.2.2.1.map cI) :: MF (fun k : Int × Int => .agg #[I k.1, I k.2]) (fun x : Int => I x) h0_3 (mupd a0.2.2.2.2 (a1.2.1, a1.2.2.1) (w64 (((a0.2.2.2.2 (a1.2.1, a1.2.2.1)).getD 0) + 1))) :: L)) (listed' := #[true, true, true, true, true, true, true, true, true, true, true, true, true, true]) (by kernel_rfl) (by kernel_rfl) ?_
                cases hj43
                refine TA.nil (by kernel_rfl) fun a w e s => ?_
                exact ⟨e.sub (lk_of_allIn ⟨rfl, rfl, trivial⟩), s⟩
              · refine TB.of rfl ?_
                refine TO.ment (k := (a1.2.1, a1.2.2.1)) (z := 0) 5 kmapGB_110_114_3_true (KeyOk.pair kunderlying_114_some_array_2_3 kunderlying_3_some_int_i64 ksizeB_3_1_true kscalB_3_true) kinfo_3_bind_zero_some_I_0 rfl rfl rfl rfl fun sbq41_11_1 => ?_
                refine TA.back (.inl (by kernel_rfl)) ?_
                refine TA.asL (L' := (Bx b8 106 [I a1.1, I a1.2.1, I a1.2.2.1, I a1.2.2.2] :: Bx b7 109 [.pointer (some ⟨b0_, 0, none⟩)] :: Bx b0_ 112 [I a0.1, U a0.2.1, h0_1, h0_2, .map (some h0_3)] :: OwnS 3 1 h0_1 (a0.2.2.1.map cI) :: OwnS 3 1 h0_2 (a0.2.2.2.1.map cI) :: MFS (fun k : Int × Int => .agg #[I k.1, I k.2]) (fun x : Int => I x) h0_3 (mupd a0.2.2.2.2 (a1.2.1, a1.2.2.1) ((a0.2.2.2.2 (a1.2.1, a1.2.2.1)).getD 0)) (a1.2.1, a1.2.2.1) sbq41_11_1 :: L)) (listed' := #[true, true, true, true, true, true, true, true, true, false, false, true, false, false]) (by kernel_rfl) (by kernel_rfl) ?_
                refine TA.takeW 12 rfl rfl rfl rfl (StepS.extract rfl rfl) (by kernel_rfl) (by kernel_rfl) (by kernel_rfl) rfl (.inl (by kernel_rfl)) ?_
                refine TA.all1 (i := 9) (by kernel_rfl) ?_
                refine TB.of rfl ?_
                refine TO.s rfl rfl rfl (StepS.lookS (k := (a1.2.1, a1.2.2.1)) (z := 0) kmapGB_110_114_3_true (KeyOk.pair kunderlying_114_some_array_2_3 kunderlying_3_some_int_i64 ksizeB_3_1_true kscalB_3_true) kinfo_3_bind_zero_some_I_0 rfl (Ent.at 5 rfl) rfl) ?_
                refine TA.back (.inl (by kernel_rfl)) ?_
                refine TA.asL (L' := (Bx b8 106 [I a1.1, I a1.2.1, I a1.2.2.1, I a1.2.2.2] :: Bx b7 109 [.pointer (some ⟨b0_, 0, none⟩)] :: Bx b0_ 112 [I a0.1, U a0.2.1, h0_1, h0_2, .map (some h0_3)] :: OwnS 3 1 h0_1 (a0.2.2.1.map cI) :: OwnS 3 1 h0_2 (a0.2.2.2.1.map cI) :: MFS (fun k : Int × Int => .agg #[I k.1, I k.2]) (fun x : Int => I x) h0_3 (mupd a0.2.2.2.2 (a1.2.1, a1.2.2.1) ((a0.2.2.2.2 (a1.2.1, a1.2.2.1)).getD 0)) (a1.2.1, a1.2.2.1) sbq41_11_1 :: L)) (listed' := #[true, true, true, true, true, true, true, true, true, true, false, true, true, false]) (by kernel_rfl) (by kernel_rfl) ?_
                refine TA.takeW 10 rfl rfl rfl rfl (StepS.ari rfl rfl rfl) (by kernel_rfl) (by kernel_rfl) (by kernel_rfl) rfl (.inl (by kernel_rfl)) ?_
                refine TA.all1 (i := 13) (by kernel_rfl) ?_
                refine TB.of rfl ?_
                refine TO.mest (k := (a1.2.1, a1.2.2.1)) (v := (w64 (((a0.2.2.2.2 (a1.2.1, a1.2.2.1)).getD 0) + 1))) 5 rfl rfl rfl rfl ?_
                rw [mupd_mupd]
                refine TA.back (.inl (by kernel_rfl)) ?_
                refine TA.asL (L' := (Bx b8 106 [I a1.1, I a1.2.1, I a1.2.2.1, I a1.2.2.2] :: Bx b7 109 [.pointer (some ⟨b0_, 0, none⟩)] :: Bx b0_ 112 [I a0.1, U a0.2.1, h0_1, h0_2, .map (some h0_3)] :: OwnS 3 1 h0_1 (a0.2.2.1.map cI) :: OwnS 3 1 h0_2 (a0.2.2.2.1.map cI) :: MF (fun k : Int × Int => .agg #[I k.1, I k.2]) (fun x : Int => I x) h0_3 (mupd a0.2.2.2.2 (a1.2.1, a1.2.2.1) (w64 (((a0.2.2.2.2 (a1.2.1, a1.2.2.1)).getD 0) + 1))) :: L)) (listed' := #[true, true, true, true, true, true, true, true, true, true, true, true, true, true]) (by kernel_rfl) (by kernel_rfl) ?_
                cases hj43
                refine TA.nil (by kernel_rfl) fun a w e s => ?_
                exact ⟨e.sub (lk_of_allIn ⟨rfl, rfl, trivial⟩), s⟩
            · intro a w ⟨he, hs⟩
              refine TC.use ?_ he hs
              refine TC.k ?_
              refine TC.region_tail 10 kfollows_mixedOrders_true (by kernel_rfl) ?_
              refine TS.s rfl rfl rfl (StepS.ldB rfl (Ent.at 1 rfl) kscalB_109_true rfl) ?_
              refine TS.s rfl rfl rfl (StepS.nilc rfl) ?_
              refine TS.s rfl rfl rfl (StepS.fld rfl kfieldB_112_2_2_true) ?_
              refine TS.s rfl rfl rfl (StepS.ldB rfl (Ent.at 2 rfl) kscalB_22_true rfl) ?_
              refine TS.s rfl rfl rfl (StepS.fld rfl kfieldB_106_1_1_true) ?_
              refine TS.s rfl rfl rfl (StepS.ldB rfl (Ent.at 0 rfl) kscalB_3_true rfl) ?_
              obtain ⟨x44, hx45, hm⟩ := bind_some hm
              refine TS.s rfl rfl rfl (StepS.idx rfl rfl (OwnS.rd (Ent.at 3 rfl)) ksliceB_22_3_1_true (idx_spec hx45).1 (idxm_lt hx45)) ?_
              refine TS.s rfl rfl rfl (StepS.ld0 rfl (OwnS.rd (Ent.at 3 rfl)) kscalB_3_true rfl (idxm hx45) rfl) ?_
              refine TS.s rfl rfl rfl (StepS.ari rfl rfl rfl) ?_
              obtain ⟨x46, hx47, hm⟩ := bind_some hm
              refine TS.s rfl rfl rfl (StepS.idx rfl rfl (OwnS.rd (Ent.at 3 rfl)) ksliceB_22_3_1_true (idx_spec hx47).1 (idxm_lt hx47)) ?_
              refine TS.nil ?_
              refine TO.at ?_
              refine TO.stO (i := a1.2.1.toNat) (off := 0) (us := [I (w64 (x44 + 1))]) 3 (w64 (x44 + 1)) rfl rfl rfl ksizeB_3_1_true rfl rfl rfl (idx_spec hx47).2 rfl (by simp [Value.oneCell']) rfl ?_
              refine TO.code ?_
              refine TC.k ?_
              refine TC.region ?_
              refine TO.s rfl rfl rfl (StepS.assign rfl) ?_
              refine TO.code ?_
              cases hm
              refine TC.ret fun a w e s => ?_
              refine FRet.mk1 (P := Try.prog) (fn := Try.f53) (t := 4) e rfl rfl ?_
              refine ⟨_, _, rfl, ⟨h0_3, rfl, rfl⟩, ?_⟩
              refine s.mono fun _ s => ?_
              replace s := Sat.front 5 rfl s
              replace s := Sat.front 5 rfl s
              replace s := Sat.front 5 rfl s
              replace s := Sat.front 5 rfl s
              replace s := Sat.erase 4 s
              replace s := Sat.erase 4 s
              exact s

set_option maxRecDepth 100000 in
theorem C20 {B : World} {L : List HP} {a0 : Int} {a1 : List (Int × Int × Int × Int)} {h1 : Value} {r0 : (List Int) × Bool × (BitVec 32) × Int} {r1 : Int} (e1 : Ent L (Rd 4 h1 (a1.map cTiiii))) (hm : F20 a0 a1 = some (r0, r1)) {w : World} (st : St B L w) : Calls Try.prog 20 #[I a0, h1] w (fun e w' => ∃ v M, e = .returned v ∧ (∃ (qv1 : Value), v = .tuple #[.agg #[qv1, .bool r0.2.1, U r0.2.2.1, I r0.2.2.2], I r1] ∧ M = (OwnS 28 1 qv1 (r0.1.map cI) :: L)) ∧ St B M w') := by
  refine calls_of (N := 97) (L := L) (args := [I a0, h1]) Try.func20 rfl rfl rfl ?_ st
  dsimp only [F20] at hm
  refine TC.k ?_
  refine TC.region ?_
  refine TO.alloc kinfo_38_bind_zero_some_agg_slice_none_0_0_bool_false_U_0_I_0 rfl rfl fun b2 => ?_
  refine TO.s rfl rfl rfl (StepS.assign rfl) ?_
  refine TO.code ?_
  refine TC.k ?_
  refine TC.k ?_
  refine TC.region ?_
  refine TO.s rfl rfl rfl (StepS.move rfl) ?_
  refine TO.s rfl rfl rfl (StepS.cmp rfl rfl rfl) ?_
  refine TO.s rfl rfl rfl (StepS.move rfl) ?_
  refine TO.mid1 3 18 (.bool ((decide (a0 < 1)) || (decide (a0 > 6)))) ?_ ?_
  · refine bcase ((decide (a0 < 1))) (fun hb3 => ?_) (fun hb3 => ?_)
    · refine TO.skip rfl rfl rfl (skipT hb3) rfl rfl ?_
      refine TO.skip rfl rfl rfl (skipT hb3) rfl rfl ?_
      refine TO.s rfl rfl rfl (StepS.pickT rfl hb3 rfl) ?_
      exact TO.up1 3 0 rfl rfl (by rw [hb3]; rfl) rfl
    · refine TO.sw rfl rfl rfl hb3 rfl rfl (StepS.move rfl) ?_
      refine TO.sw rfl rfl rfl hb3 rfl rfl (StepS.cmp rfl rfl rfl) ?_
      refine TO.s rfl rfl rfl (StepS.pickF rfl hb3 rfl) ?_
      exact TO.up1 3 0 rfl rfl (by rw [hb3]; rfl) rfl
  refine TO.s rfl rfl rfl (StepS.move rfl) ?_
  refine TO.mid1 4 23 (.bool (((decide (a0 < 1)) || (decide (a0 > 6))) || (decide ((a1.length : Int) > 60)))) ?_ ?_
  · refine bcase (((decide (a0 < 1)) || (decide (a0 > 6)))) (fun hb4 => ?_) (fun hb4 => ?_)
    · refine TO.skip rfl rfl rfl (skipT hb4) rfl rfl ?_
      refine TO.skip rfl rfl rfl (skipT hb4) rfl rfl ?_
      refine TO.skip rfl rfl rfl (skipT hb4) rfl rfl ?_
      refine TO.s rfl rfl rfl (StepS.pickT rfl hb4 rfl) ?_
      exact TO.up1 4 0 rfl rfl (by rw [hb4]; rfl) rfl
    · refine TO.sw rfl rfl rfl hb4 rfl rfl (StepS.move rfl) ?_
      refine TO.sw rfl rfl rfl hb4 rfl rfl (StepS.lenm rfl e1.tl ksliceB_23_106_4_true rfl) ?_
      refine TO.sw rfl rfl rfl hb4 rfl rfl (StepS.cmp rfl rfl rfl) ?_
      refine TO.s rfl rfl rfl (StepS.pickF rfl hb4 rfl) ?_
      exact TO.up1 4 0 rfl rfl (by rw [hb4]; rfl) rfl
  refine TO.code ?_
  refine TC.cond rfl (fun hc5 => ?_) (fun hc5 => ?_)
  · replace hm := cond_t hc5 hm
    refine TC.k ?_
    refine TC.region ?_
    refine TO.s rfl rfl rfl (StepS.build (cs := [.slice none 0 0, .bool false, U 0, I 0]) rfl (by kernel_rfl)) ?_
    refine TO.stB (us := [.slice none 0 0, .bool false, U 0, I 0]) 0 [.slice none 0 0, .bool false, U 0, I 0] rfl rfl rfl ksizeB_38_4_true rfl rfl rfl (by simp [Value.oneCell']) rfl ?_
    refine TO.s rfl rfl rfl (StepS.assign rfl) ?_
    refine TO.code ?_
    cases hm
    refine TC.ret fun a w e s => ?_
    refine FRet.cell2 (P := Try.prog) (fn := Try.f20) e s rfl rfl rfl (Ent.at 0 rfl) kaggB_38_4_true rfl ?_
    refine ⟨_, _, rfl, ⟨(.slice none 0 0), rfl, rfl⟩, ?_⟩
    refine s.mono fun _ s => ?_
    replace s := Sat.nilS (e := 28) (sz := 1) (f := cI) s
    replace s := Sat.erase 1 s
    exact s
  · replace hm := cond_f hc5 hm
    refine TC.skipk ?_
    refine TC.k ?_
    refine TC.region ?_
    refine TO.s rfl rfl rfl (StepS.move rfl) ?_
    refine TO.s rfl rfl rfl (StepS.move rfl) ?_
    obtain ⟨y6, hk7, hm⟩ := bind_some hm
    refine TO.mkS (f := cI) (za := 0) kelemB_22_3_1_8_true kinfo_3_bind_zero_some_I_0 rfl (by decide) rfl rfl hk7 rfl fun v8 => ?_
    refine TO.mkMF (kf := (fun k : Int × Int => .agg #[I k.1, I k.2])) (vf := (fun x : Int => I x)) rfl fun r10 => ?_
    refine TO.pure (fun _ s => Rd.one (OwnS.rd (Ent.at 1 rfl)) s) fun oc12 => ?_
    refine TO.s rfl rfl rfl (StepS.buildS (us := [(0, I a0), (1, U (1#32)), (2, .agg #[v8]), (4, .map (some r10))]) (cs := [I a0, U (1#32), v8, .slice none 0 0, .map (some r10)]) rfl (by simp only [List.map_cons, List.map_nil, oc12.2] <;> rfl) (by kernel_rfl)) ?_
    refine TO.box (cs := [I a0, U (1#32), v8, .slice none 0 0, .map (some r10)]) rfl rfl rfl fun b13 => ?_
    refine TO.s rfl rfl rfl (StepS.assign rfl) ?_
    refine TO.code ?_
    refine TC.k ?_
    refine TC.k ?_
    refine TC.region ?_
    refine TO.s rfl rfl rfl (StepS.move rfl) ?_
    refine TO.s rfl rfl rfl (StepS.move rfl) ?_
    refine TO.code ?_
    obtain ⟨o25, hw26, hm⟩ := bind_some hm
    refine TC.loop hw26 (fun (y16, x17) => fun a w => ∃ v14 : Value, Mid 97 B [(1, h1), (4, .pointer (some ⟨b2, 0, none⟩)), (6, .pointer (some ⟨b13, 0, none⟩)), (31, I a0), (32, I x17)] (OwnS 3 1 v14 (y16.map cI) :: Bx b13 112 [I a0, U (1#32), v8, v14, .map (some r10)] :: MF (fun k : Int × Int => .agg #[I k.1, I k.2]) (fun x : Int => I x) r10 ((mzero : (Int × Int) → Option Int)) :: OwnS 3 1 v8 (y6.map cI) :: Bx b2 38 [.slice none 0 0, .bool false, U 0, I 0] :: L) a w) (fun y24 => fun a w => ∃ v22 : Value, Mid 97 B [(1, h1), (4, .pointer (some ⟨b2, 0, none⟩)), (6, .pointer (some ⟨b13, 0, none⟩))] (OwnS 3 1 v22 (y24.map cI) :: Bx b13 112 [I a0, U (1#32), v8, v22, .map (some r10)] :: MF (fun k : Int × Int => .agg #[I k.1, I k.2]) (fun x : Int => I x) r10 ((mzero : (Int × Int) → Option Int)) :: OwnS 3 1 v8 (y6.map cI) :: Bx b2 38 [.slice none 0 0, .bool false, U 0, I 0] :: L) a w) (fun (_ : Unit) _ _ => False) ?_ ?_ ?_ ?_
    · rintro ⟨y16, x17⟩ o25r hb27 a w ⟨v14, he, hs⟩
      dsimp only [F20_L0] at hb27
      refine TC.use ?_ he hs
      refine TC.k ?_
      refine TC.region ?_
      refine TO.s rfl rfl rfl (StepS.cmp rfl rfl rfl) ?_
      refine TO.code ?_
      refine TC.k ?_
      refine TC.cond rfl (fun hc28 => ?_) (fun hc28 => ?_)
      · replace hb27 := cond_t hc28 hb27
        refine TC.skipk ?_
        refine TC.k ?_
        refine TC.block ?_
        refine TC.k ?_
        refine TC.region ?_
        refine TO.s rfl rfl rfl (StepS.move rfl) ?_
        refine TO.s rfl rfl rfl (StepS.assign rfl) ?_
        refine TO.code ?_
        refine TC.region ?_
        refine TO.s rfl rfl rfl (StepS.move rfl) ?_
        refine TO.s rfl rfl rfl (StepS.move rfl) ?_
        refine TO.s rfl rfl rfl (StepS.nilc rfl) ?_
        refine TO.s rfl rfl rfl (StepS.fld rfl kfieldB_112_3_3_true) ?_
        refine TO.s rfl rfl rfl (StepS.ldB rfl (Ent.at 1 rfl) kscalB_22_true rfl) ?_
        refine TO.s rfl rfl rfl (StepS.move rfl) ?_
        refine TO.litS (f := cI) ([x17] : List Int) kelemB_22_3_1_8_true kinfo_3_bind_zero_some_I_0 rfl rfl (fun _ => rfl) rfl rfl (by kernel_rfl) rfl fun v29 => ?_
        obtain ⟨y31, hk32, hb27⟩ := bind_some hb27
        refine TO.app (k := 1) (f := cI) kelemB_22_3_1_8_true (by decide) rfl rfl rfl (OwnS.rd (Ent.at 0 rfl)) hk32 (fun x c hc => by simp [Value.oneCell'] at hc ⊢; first | (obtain rfl := hc; rfl) | (rcases hc with rfl <;> rfl)) rfl rfl fun v33 => ?_
        refine TO.s rfl rfl rfl (StepS.nilc rfl) ?_
        refine TO.s rfl rfl rfl (StepS.fld rfl kfieldB_112_3_3_true) ?_
        refine TO.pure (fun _ s => Rd.one (OwnS.rd (Ent.at 1 rfl)) s) fun oc34 => ?_
        refine TO.stB (us := [v33]) 2 [I a0, U (1#32), v8, v33, .map (some r10)] rfl rfl rfl ksizeB_22_1_true oc34.2 rfl rfl (by intro u hu; simp only [List.mem_cons, List.not_mem_nil, or_false] at hu; rcases hu with rfl <;> first | exact oc34.1 | rfl) rfl ?_
        refine TO.code ?_
        refine TC.region ?_
        refine TO.s rfl rfl rfl (StepS.ari rfl rfl rfl) ?_
        refine TO.s rfl rfl rfl (StepS.move rfl) ?_
        cases hb27
        refine TO.nil fun a w e s => ?_
        exact ⟨v33, e.sub (lk_of_allIn ⟨rfl, rfl, rfl, rfl, rfl, trivial⟩), s.mono fun _ => Sat.dropN 1⟩
      · replace hb27 := cond_f hc28 hb27
        cases hb27
        refine TC.exit rfl fun a w e s => ?_
        exact ⟨v14, e.sub (lk_of_allIn ⟨rfl, rfl, rfl, trivial⟩), s⟩
    · exact fun a w e s => ⟨.slice none 0 0, e.sub (lk_of_allIn ⟨rfl, rfl, rfl, rfl, rfl, trivial⟩), s.mono fun _ s => (by replace s := Sat.nilS (e := 3) (sz := 1) (f := cI) s; exact Sat.by [4, 4, 4, 4, 4] 5 0 (by kernel_rfl) s)⟩
    · rintro y24 rfl a w ⟨v22, he, hs⟩
      dsimp only [Ctl.on] at hm
      refine TC.use ?_ he hs
      refine TC.k ?_
      refine TC.region ?_
      refine TO.alloc kinfo_38_bind_zero_some_agg_slice_none_0_0_bool_false_U_0_I_0 rfl rfl fun b35 => ?_
      refine TO.code ?_
      refine TC.k ?_
      refine TC.k ?_
      refine TC.region ?_
      refine TO.s rfl rfl rfl (StepS.move rfl) ?_
      refine TO.s rfl rfl rfl (StepS.lenm rfl e1.tl.tl.tl.tl.tl.tl ksliceB_23_106_4_true rfl) ?_
      refine TO.s rfl rfl rfl (StepS.move rfl) ?_
      refine TO.code ?_
      obtain ⟨o68, hw69, hm⟩ := bind_some hm
      refine TC.loop hw69 (fun (y38, y41, y42, y43, x44, x45, x46) => fun a w => ∃ v36 : Value, ∃ r40 : Nat, Mid 97 B [(4, .pointer (some ⟨b2, 0, none⟩)), (6, .pointer (some ⟨b13, 0, none⟩)), (8, .pointer (some ⟨b35, 0, none⟩)), (46, h1), (47, I (a1.length : Int)), (48, I x46)] (OwnS 28 1 v36 (y38.map cI) :: MF (fun k : Int × Int => .agg #[I k.1, I k.2]) (fun x : Int => I x) r40 (y41) :: Bx b35 38 [v36, .bool false, U 0, I 0] :: OwnS 3 1 v22 (y42.map cI) :: Bx b13 112 [I x44, U x45, v8, v22, .map (some r40)] :: OwnS 3 1 v8 (y43.map cI) :: Bx b2 38 [.slice none 0 0, .bool false, U 0, I 0] :: L) a w) (fun (y60, y63, y64, y65, x66, x67) => fun a w => ∃ v58 : Value, ∃ r62 : Nat, Mid 97 B [(4, .pointer (some ⟨b2, 0, none⟩)), (6, .pointer (some ⟨b13, 0, none⟩)), (8, .pointer (some ⟨b35, 0, none⟩))] (OwnS 28 1 v58 (y60.map cI) :: MF (fun k : Int × Int => .agg #[I k.1, I k.2]) (fun x : Int => I x) r62 (y63) :: Bx b35 38 [v58, .bool false, U 0, I 0] :: OwnS 3 1 v22 (y64.map cI) :: Bx b13 112 [I x66, U x67, v8, v22, .map (some r62)] :: OwnS 3 1 v8 (y65.map cI) :: Bx b2 38 [.slice none 0 0, .bool false, U 0, I 0] :: L) a w) (fun (_ : Unit) _ _ => False) ?_ ?_ ?_ ?_
      · rintro ⟨y38, y41, y42, y43, x44, x45, x46⟩ o68r hb70 a w ⟨v36, r40, he, hs⟩
        dsimp only [F20_L1] at hb70
        refine TC.use ?_ he hs
        refine TC.k ?_
        refine TC.region ?_
        refine TO.s rfl rfl rfl (StepS.cmp rfl rfl rfl) ?_
        refine TO.code ?_
        refine TC.k ?_
        refine TC.cond rfl (fun hc71 => ?_) (fun hc71 => ?_)
        · replace hb70 := cond_t hc71 hb70
          refine TC.skipk ?_
          refine TC.k ?_
          refine TC.block ?_
          refine TC.k ?_
          refine TC.region ?_
          obtain ⟨x72, hx73, hb70⟩ := bind_some hb70
          refine TO.s rfl rfl rfl (StepS.idx rfl rfl e1.tl.tl.tl.tl.tl.tl.tl ksliceB_23_106_4_true (idx_spec hx73).1 (idxm_lt hx73)) ?_
          refine TO.s rfl rfl rfl (StepS.ldE rfl e1.tl.tl.tl.tl.tl.tl.tl kaggB_106_4_true rfl (idxm hx73)) ?_
          refine TO.alloc kinfo_106_bind_zero_some_agg_I_0_I_0_I_0_I_0 rfl rfl fun b74 => ?_
          refine TO.stB (us := [I x72.1, I x72.2.1, I x72.2.2.1, I x72.2.2.2]) 0 [I x72.1, I x72.2.1, I x72.2.2.1, I x72.2.2.2] rfl rfl rfl ksizeB_106_4_true rfl rfl rfl (by simp [Value.oneCell']) rfl ?_
          refine TO.code ?_
          refine TC.region_any (Bx b74 106 [I x72.1, I x72.2.1, I x72.2.2.1, I x72.2.2.2] :: Bx b35 38 [v36, .bool false, U 0, I 0] :: Bx b2 38 [.slice none 0 0, .bool false, U 0, I 0] :: L) 8 9 kfollows_mixedOrders_true rfl ?_
          refine TA.takeW 0 rfl rfl rfl rfl (StepS.fld rfl kfieldB_38_0_0_true) (by kernel_rfl) (by kernel_rfl) (by kernel_rfl) rfl (.inr (fun _ s => Sat.by [7, 4, 2] 3 5 (by kernel_rfl) s)) ?_
          refine TA.take 1 rfl rfl rfl rfl (StepS.ldB rfl (Ent.at 1 rfl) kscalB_24_true rfl) (by kernel_rfl) (by kernel_rfl) (by kernel_rfl) (by kernel_rfl) (by kernel_rfl) (fun _ s => Sat.by [7, 4, 2] 3 5 (by kernel_rfl) s) ?_
          refine TA.takeW 2 rfl rfl rfl rfl (StepS.move rfl) (by kernel_rfl) (by kernel_rfl) (by kernel_rfl) rfl (.inr (fun _ s => Sat.by [7, 4, 2] 3 5 (by kernel_rfl) s)) ?_
          refine TA.take 3 rfl rfl rfl rfl (StepS.ldBA rfl (Ent.at 0 rfl) kaggB_106_4_true rfl rfl) (by kernel_rfl) (by kernel_rfl) (by kernel_rfl) (by kernel_rfl) (by kernel_rfl) (fun _ s => Sat.by [7, 4, 2] 3 5 (by kernel_rfl) s) ?_
          refine TA.all1 (i := 4) (by kernel_rfl) ?_
          refine TB.of rfl ?_
          refine TO.ghost (fun _ s => Sat.front 2 rfl s) ?_
          refine TO.ghost (fun _ s => Sat.front 4 rfl s) ?_
          refine TO.ghost (fun _ s => Sat.front 6 rfl s) ?_
          refine TO.ghost (fun _ s => Sat.front 6 rfl s) ?_
          obtain ⟨⟨rq75_4_1, rq75_4_2⟩, hcq75_4_3, hb70⟩ := bind_some hb70
          refine TO.callO kcallB_53_true rfl rfl rfl (fun _ st => C53 (a0 := (x44, x45, y43, y42, y41))  hcq75_4_3 st) ?_
          rintro _ _ ⟨rq75_4_6, rfl, rfl⟩
          refine TA.back (.inr (fun _ s => Sat.by [7, 7, 6] 3 5 (by kernel_rfl) s)) ?_
          refine TA.asL (L' := (Bx b13 112 [I rq75_4_2.1, U rq75_4_2.2.1, v8, v22, .map (some rq75_4_6)] :: OwnS 3 1 v8 (rq75_4_2.2.2.1.map cI) :: OwnS 3 1 v22 (rq75_4_2.2.2.2.1.map cI) :: MF (fun k : Int × Int => .agg #[I k.1, I k.2]) (fun x : Int => I x) rq75_4_6 (rq75_4_2.2.2.2.2) :: Bx b74 106 [I x72.1, I x72.2.1, I x72.2.2.1, I x72.2.2.2] :: OwnS 28 1 v36 (y38.map cI) :: Bx b35 38 [v36, .bool false, U 0, I 0] :: Bx b2 38 [.slice none 0 0, .bool false, U 0, I 0] :: L)) (listed' := #[true, true, true, true, true, false, false, false, false]) (by kernel_rfl) (by kernel_rfl) ?_
          refine TA.all1 (i := 5) (by kernel_rfl) ?_
          refine TB.of rfl ?_
          refine TO.litS (f := cI) ([rq75_4_1] : List Int) kelemB_24_28_1_8_true kinfo_28_bind_zero_some_I_0 rfl rfl (fun _ => rfl) rfl rfl (by kernel_rfl) rfl fun vq75_5_1 => ?_
          refine TA.back (.inr (fun _ s => Sat.by [8, 8, 7] 3 6 (by kernel_rfl) s)) ?_
          refine TA.asL (L' := (OwnS 28 1 vq75_5_1 (([rq75_4_1] : List Int).map cI) :: Bx b13 112 [I rq75_4_2.1, U rq75_4_2.2.1, v8, v22, .map (some rq75_4_6)] :: OwnS 3 1 v8 (rq75_4_2.2.2.1.map cI) :: OwnS 3 1 v22 (rq75_4_2.2.2.2.1.map cI) :: MF (fun k : Int × Int => .agg #[I k.1, I k.2]) (fun x : Int => I x) rq75_4_6 (rq75_4_2.2.2.2.2) :: Bx b74 106 [I x72.1, I x72.2.1, I x72.2.2.1, I x72.2.2.2] :: OwnS 28 1 v36 (y38.map cI) :: Bx b35 38 [v36, .bool false, U 0, I 0] :: Bx b2 38 [.slice none 0 0, .bool false, U 0, I 0] :: L)) (listed' := #[true, true, true, true, true, true, false, false, false]) (by kernel_rfl) (by kernel_rfl) ?_
          refine TA.all1 (i := 6) (by kernel_rfl) ?_
          refine TB.of rfl ?_
          obtain ⟨yq75_6_1, hkq75_6_2, hb70⟩ := bind_some hb70
          refine TO.app (k := 6) (f := cI) kelemB_24_28_1_8_true (by decide) rfl rfl rfl (OwnS.rd (Ent.at 0 rfl)) hkq75_6_2 (fun x c hc => by simp [Value.oneCell'] at hc ⊢; first | (obtain rfl := hc; rfl) | (rcases hc with rfl <;> rfl)) rfl rfl fun vq75_6_3 => ?_
          refine TA.back (.inr (fun _ s => Sat.by [8, 8, 7] 3 6 (by kernel_rfl) s)) ?_
          refine TA.asL (L' := (OwnS 28 1 vq75_5_1 (([rq75_4_1] : List Int).map cI) :: Bx b13 112 [I rq75_4_2.1, U rq75_4_2.2.1, v8, v22, .map (some rq75_4_6)] :: OwnS 3 1 v8 (rq75_4_2.2.2.1.map cI) :: OwnS 3 1 v22 (rq75_4_2.2.2.2.1.map cI) :: MF (fun k : Int × Int => .agg #[I k.1, I k.2]) (fun x : Int => I x) rq75_4_6 (rq75_4_2.2.2.2.2) :: Bx b74 106 [I x72.1, I x72.2.1, I x72.2.2.1, I x72.2.2.2] :: OwnS 28 1 vq75_6_3 (yq75_6_1.map cI) :: Bx b35 38 [v36, .bool false, U 0, I 0] :: Bx b2 38 [.slice none 0 0, .bool false, U 0, I 0] :: L)) (listed' := #[true, true, true, true, true, true, true, false, false]) (by kernel_rfl) (by kernel_rfl) ?_
          refine TA.takeW 7 rfl rfl rfl rfl (StepS.fld rfl kfieldB_38_0_0_true) (by kernel_rfl) (by kernel_rfl) (by kernel_rfl) rfl (.inr (fun _ s => Sat.by [8, 8, 7] 3 6 (by kernel_rfl) s)) ?_
          refine TA.all1 (i := 8) (by kernel_rfl) ?_
          refine TB.of rfl ?_
          refine TO.pure (fun _ s => Rd.one (OwnS.rd (Ent.at 6 rfl)) s) fun ocq75_8_1 => ?_
          refine TO.stB (us := [vq75_6_3]) 7 [vq75_6_3, .bool false, U 0, I 0] rfl rfl rfl ksizeB_24_1_true ocq75_8_1.2 rfl rfl (by intro u hu; simp only [List.mem_cons, List.not_mem_nil, or_false] at hu; rcases hu with rfl <;> first | exact ocq75_8_1.1 | rfl) rfl ?_
          refine TA.back (.inl (by kernel_rfl)) ?_
          refine TA.asL (L' := (OwnS 28 1 vq75_5_1 (([rq75_4_1] : List Int).map cI) :: Bx b13 112 [I rq75_4_2.1, U rq75_4_2.2.1, v8, v22, .map (some rq75_4_6)] :: OwnS 3 1 v8 (rq75_4_2.2.2.1.map cI) :: OwnS 3 1 v22 (rq75_4_2.2.2.2.1.map cI) :: MF (fun k : Int × Int => .agg #[I k.1, I k.2]) (fun x : Int => I x) rq75_4_6 (rq75_4_2.2.2.2.2) :: Bx b74 106 [I x72.1, I x72.2.1, I x72.2.2.1, I x72.2.2.2] :: OwnS 28 1 vq75_6_3 (yq75_6_1.map cI) :: Bx b35 38 [vq75_6_3, .bool false, U 0, I 0] :: Bx b2 38 [.slice none 0 0, .bool false, U 0, I 0] :: L)) (listed' := #[true, true, true, true, true, true, true, true, true]) (by kernel_rfl) (by kernel_rfl) ?_
          refine TA.code (by kernel_rfl) ?_
          refine TC.region ?_
          refine TO.s rfl rfl rfl (StepS.ari rfl rfl rfl) ?_
          refine TO.s rfl rfl rfl (StepS.move rfl) ?_
          cases hb70
          refine TO.nil fun a w e s => ?_
          exact ⟨vq75_6_3, rq75_4_6, e.sub (lk_of_allIn ⟨rfl, rfl, rfl, rfl, rfl, rfl, trivial⟩), s.mono fun _ s => (by exact Sat.by [8, 3, 3, 4, 8, 6, 8] 7 2 (by kernel_rfl) s)⟩
        · replace hb70 := cond_f hc71 hb70
          cases hb70
          refine TC.exit rfl fun a w e s => ?_
          exact ⟨v36, r40, e.sub (lk_of_allIn ⟨rfl, rfl, rfl, trivial⟩), s⟩
      · exact fun a w e s => ⟨.slice none 0 0, r10, e.sub (lk_of_allIn ⟨rfl, rfl, rfl, rfl, rfl, rfl, trivial⟩), s.mono fun _ s => (by replace s := Sat.nilS (e := 28) (sz := 1) (f := cI) s; exact Sat.by [6, 6, 5, 5, 5, 6, 6] 7 0 (by kernel_rfl) s)⟩
      · rintro ⟨y60, y63, y64, y65, x66, x67⟩ rfl a w ⟨v58, r62, he, hs⟩
        dsimp only [Ctl.on] at hm
        refine TC.use ?_ he hs
        refine TC.k ?_
        refine TC.k ?_
        refine TC.region ?_
        refine TO.s rfl rfl rfl (StepS.move rfl) ?_
        refine TO.s rfl rfl rfl (StepS.nilc rfl) ?_
        refine TO.s rfl rfl rfl (StepS.fld rfl kfieldB_112_4_4_true) ?_
        refine TO.s rfl rfl rfl (StepS.ldB rfl (Ent.at 4 rfl) kscalB_110_true rfl) ?_
        refine TO.ghost (fun _ s => Sat.front 1 rfl s) ?_
        refine TO.range kmapGB_110_114_3_true rfl rfl fun it76 => ?_
        refine TO.code ?_
        obtain ⟨o83, hw84, hm⟩ := bind_some hm
        refine TC.rangeM hw84 (fun q77 x81 => fun a w => Mid 97 B [(4, .pointer (some ⟨b2, 0, none⟩)), (6, .pointer (some ⟨b13, 0, none⟩)), (8, .pointer (some ⟨b35, 0, none⟩)), (65, .pointer (some ⟨it76, 0, none⟩))] (MFR (fun k : Int × Int => .agg #[I k.1, I k.2]) (fun x : Int => I x) it76 r62 (y63) q77 :: OwnS 28 1 v58 (y60.map cI) :: Bx b35 38 [v58, .bool false, U 0, I x81] :: OwnS 3 1 v22 (y64.map cI) :: Bx b13 112 [I x66, U x67, v8, v22, .map (some r62)] :: OwnS 3 1 v8 (y65.map cI) :: Bx b2 38 [.slice none 0 0, .bool false, U 0, I 0] :: L) a w) (fun x81 => fun a w => Mid 97 B [(4, .pointer (some ⟨b2, 0, none⟩)), (6, .pointer (some ⟨b13, 0, none⟩)), (8, .pointer (some ⟨b35, 0, none⟩))] (MF (fun k : Int × Int => .agg #[I k.1, I k.2]) (fun x : Int => I x) r62 (y63) :: OwnS 28 1 v58 (y60.map cI) :: Bx b35 38 [v58, .bool false, U 0, I x81] :: OwnS 3 1 v22 (y64.map cI) :: Bx b13 112 [I x66, U x67, v8, v22, .map (some r62)] :: OwnS 3 1 v8 (y65.map cI) :: Bx b2 38 [.slice none 0 0, .bool false, U 0, I 0] :: L) a w) (fun (_ : Unit) _ _ => False) ?_ ?_ ?_ ?_
        · rintro q77 x81 hb85r a w ⟨he, hs⟩
          refine TC.use ?_ he hs
          refine TC.k ?_
          refine TC.region ?_
          refine TO.next 0 rfl rfl rfl (fun hd87 => ?_) (fun k78 v79 hk80 hn86 => ?_)
          · refine TO.s rfl rfl rfl (StepS.extract rfl rfl) ?_
            refine TO.code ?_
            refine TC.k ?_
            refine TC.condF rfl ?_
            refine TC.exit rfl fun a w e s => ?_
            exact ⟨hd87, e.sub (lk_of_allIn ⟨rfl, rfl, rfl, trivial⟩), s.mono fun _ s => (by replace s := Sat.front 0 rfl s; replace s := Sat.unrange s; exact s)⟩
          · refine TO.s rfl rfl rfl (StepS.extract rfl rfl) ?_
            refine TO.code ?_
            obtain ⟨_, hb850⟩ := hb85r k78 v79 hk80 hn86
            have hb85 := hb850
            refine TC.rmore (Pre := fun q77 x81 => fun a w => Mid 97 B [(4, .pointer (some ⟨b2, 0, none⟩)), (6, .pointer (some ⟨b13, 0, none⟩)), (8, .pointer (some ⟨b35, 0, none⟩)), (65, .pointer (some ⟨it76, 0, none⟩))] (MFR (fun k : Int × Int => .agg #[I k.1, I k.2]) (fun x : Int => I x) it76 r62 (y63) q77 :: OwnS 28 1 v58 (y60.map cI) :: Bx b35 38 [v58, .bool false, U 0, I x81] :: OwnS 3 1 v22 (y64.map cI) :: Bx b13 112 [I x66, U x67, v8, v22, .map (some r62)] :: OwnS 3 1 v8 (y65.map cI) :: Bx b2 38 [.slice none 0 0, .bool false, U 0, I 0] :: L) a w) (Ret := fun (_ : Unit) _ _ => False) 4 hk80 hn86 hb850 ?_
            dsimp only [F20_L2] at hb85
            refine TC.k ?_
            refine TC.condT rfl ?_
            refine TC.skipk ?_
            refine TC.block ?_
            refine TC.k ?_
            refine TC.region ?_
            refine TO.s rfl rfl rfl (StepS.entryF rfl (Ent.at 0 rfl)) ?_
            refine TO.s rfl rfl rfl (StepS.extract rfl rfl) ?_
            refine TO.s rfl rfl rfl (StepS.assign rfl) ?_
            refine TO.code ?_
            refine TC.region ?_
            refine TO.s rfl rfl rfl (StepS.fld rfl kfieldB_38_3_3_true) ?_
            refine TO.s rfl rfl rfl (StepS.ldB rfl (Ent.at 2 rfl) kscalB_3_true rfl) ?_
            refine TO.s rfl rfl rfl (StepS.move rfl) ?_
            refine TO.s rfl rfl rfl (StepS.ari rfl rfl rfl) ?_
            refine TO.s rfl rfl rfl (StepS.fld rfl kfieldB_38_3_3_true) ?_
            refine TO.stB (us := [I (w64 (x81 + v79))]) 2 [v58, .bool false, U 0, I (w64 (x81 + v79))] rfl rfl rfl ksizeB_3_1_true rfl rfl rfl (by simp [Value.oneCell']) rfl ?_
            cases hb85
            refine TO.nil fun a w e s => ?_
            exact ⟨e.sub (lk_of_allIn ⟨rfl, rfl, rfl, rfl, trivial⟩), s⟩
        · exact fun a w e s => ⟨e.sub (lk_of_allIn ⟨rfl, rfl, rfl, rfl, trivial⟩), s⟩
        · rintro x81 rfl a w ⟨he, hs⟩
          dsimp only [Ctl.onN] at hm
          refine TC.use ?_ he hs
          refine TC.k ?_
          obtain ⟨⟨b89, x90⟩, hj91, hm⟩ := bind_some hm
          first | refine TC.cutM (fun a w => Mid 97 B [(4, .pointer (some ⟨b2, 0, none⟩)), (8, .pointer (some ⟨b35, 0, none⟩))] (MF (fun k : Int × Int => .agg #[I k.1, I k.2]) (fun x : Int => I x) r62 (y63) :: OwnS 28 1 v58 (y60.map cI) :: Bx b35 38 [v58, .bool b89, U x90, I x81] :: OwnS 3 1 v22 (y64.map cI) :: Bx b13 112 [I x66, U x67, v8, v22, .map (some r62)] :: OwnS 3 1 v8 (y65.map cI) :: Bx b2 38 [.slice none 0 0, .bool false, U 0, I 0] :: L) a w) ?_ ?_ | refine TC.cutX (fun a w => Mid 97 B [(4, .pointer (some ⟨b2, 0, none⟩)), (8, .pointer (some ⟨b35, 0, none⟩))] (MF (fun k : Int × Int => .agg #[I k.1, I k.2]) (fun x : Int => I x) r62 (y63) :: OwnS 28 1 v58 (y60.map cI) :: Bx b35 38 [v58, .bool b89, U x90, I x81] :: OwnS 3 1 v22 (y64.map cI) :: Bx b13 112 [I x66, U x67, v8, v22, .map (some r62)] :: OwnS 3 1 v8 (y65.map cI) :: Bx b2 38 [.slice none 0 0, .bool false, U 0, I 0] :: L) a w) ?_ ?_
          · refine TC.region_any (MF (fun k : Int × Int => .agg #[I k.1, I k.2]) (fun x : Int => I x) r62 (y63) :: OwnS 28 1 v58 (y60.map cI) :: OwnS 3 1 v22 (y64.map cI) :: Bx b13 112 [I x66, U x67, v8, v22, .map (some r62)] :: OwnS 3 1 v8 (y65.map cI) :: Bx b2 38 [.slice none 0 0, .bool false, U 0, I 0] :: L) 23 23 kfollows_mixedOrders_true rfl ?_
            refine TA.takeW 0 rfl rfl rfl rfl (StepS.move rfl) (by kernel_rfl) (by kernel_rfl) (by kernel_rfl) rfl (.inr (fun _ s => Sat.by [6, 6, 6, 6, 5, 5] 6 1 (by kernel_rfl) s)) ?_
            refine TA.takeW 1 rfl rfl rfl rfl (StepS.nilc rfl) (by kernel_rfl) (by kernel_rfl) (by kernel_rfl) rfl (.inr (fun _ s => Sat.by [6, 6, 6, 6, 5, 5] 6 1 (by kernel_rfl) s)) ?_
            refine TA.takeW 2 rfl rfl rfl rfl (StepS.fld rfl kfieldB_112_1_1_true) (by kernel_rfl) (by kernel_rfl) (by kernel_rfl) rfl (.inr (fun _ s => Sat.by [6, 6, 6, 6, 5, 5] 6 1 (by kernel_rfl) s)) ?_
            refine TA.take 3 rfl rfl rfl rfl (StepS.ldB rfl (Ent.at 3 rfl) kscalB_36_true rfl) (by kernel_rfl) (by kernel_rfl) (by kernel_rfl) (by kernel_rfl) (by kernel_rfl) (fun _ s => Sat.by [6, 6, 6, 6, 5, 5] 6 1 (by kernel_rfl) s) ?_
            refine TA.takeW 4 rfl rfl rfl rfl (StepS.move rfl) (by kernel_rfl) (by kernel_rfl) (by kernel_rfl) rfl (.inr (fun _ s => Sat.by [6, 6, 6, 6, 5, 5] 6 1 (by kernel_rfl) s)) ?_
            refine TA.takeW 5 rfl rfl rfl rfl (StepS.nilc rfl) (by kernel_rfl) (by kernel_rfl) (by kernel_rfl) rfl (.inr (fun _ s => Sat.by [6, 6, 6, 6, 5, 5] 6 1 (by kernel_rfl) s)) ?_
            refine TA.takeW 6 rfl rfl rfl rfl (StepS.fld rfl kfieldB_112_1_1_true) (by kernel_rfl) (by kernel_rfl) (by kernel_rfl) rfl (.inr (fun _ s => Sat.by [6, 6, 6, 6, 5, 5] 6 1 (by kernel_rfl) s)) ?_
            refine TA.take 7 rfl rfl rfl rfl (StepS.ldB rfl (Ent.at 3 rfl) kscalB_36_true rfl) (by kernel_rfl) (by kernel_rfl) (by kernel_rfl) (by kernel_rfl) (by kernel_rfl) (fun _ s => Sat.by [6, 6, 6, 6, 5, 5] 6 1 (by kernel_rfl) s) ?_
            refine TA.takeW 8 rfl rfl rfl rfl (StepS.bitU (n := 1#32) rfl rfl rfl) (by kernel_rfl) (by kernel_rfl) (by kernel_rfl) rfl (.inr (fun _ s => Sat.by [6, 6, 6, 6, 5, 5] 6 1 (by kernel_rfl) s)) ?_
            refine TA.takeW 9 rfl rfl rfl rfl (StepS.cmpU (n := 0#32) rfl rfl rfl) (by kernel_rfl) (by kernel_rfl) (by kernel_rfl) rfl (.inr (fun _ s => Sat.by [6, 6, 6, 6, 5, 5] 6 1 (by kernel_rfl) s)) ?_
            refine TA.takeW 10 rfl rfl rfl rfl (StepS.move rfl) (by kernel_rfl) (by kernel_rfl) (by kernel_rfl) rfl (.inr (fun _ s => Sat.by [6, 6, 6, 6, 5, 5] 6 1 (by kernel_rfl) s)) ?_
            refine bcase (((x67 &&& (1#32)) == (0#32))) (fun hb92 => ?_) (fun hb92 => ?_)
            · replace hj91 := cond_t hb92 hj91
              refine TA.takeGW 11 rfl rfl rfl rfl hb92 rfl rfl (StepS.move rfl) (by kernel_rfl) (by kernel_rfl) (by kernel_rfl) rfl (.inr (fun _ s => Sat.by [6, 6, 6, 6, 5, 5] 6 1 (by kernel_rfl) s)) ?_
              refine TA.takeGW 12 rfl rfl rfl rfl hb92 rfl rfl (StepS.nilc rfl) (by kernel_rfl) (by kernel_rfl) (by kernel_rfl) rfl (.inr (fun _ s => Sat.by [6, 6, 6, 6, 5, 5] 6 1 (by kernel_rfl) s)) ?_
              refine TA.takeGW 13 rfl rfl rfl rfl hb92 rfl rfl (StepS.fld rfl kfieldB_112_2_2_true) (by kernel_rfl) (by kernel_rfl) (by kernel_rfl) rfl (.inr (fun _ s => Sat.by [6, 6, 6, 6, 5, 5] 6 1 (by kernel_rfl) s)) ?_
              refine TA.takeG 14 rfl rfl rfl rfl hb92 rfl rfl (StepS.ldB rfl (Ent.at 3 rfl) kscalB_22_true rfl) (by kernel_rfl) (by kernel_rfl) (by kernel_rfl) (by kernel_rfl) (by kernel_rfl) (fun _ s => Sat.by [6, 6, 6, 6, 5, 5] 6 1 (by kernel_rfl) s) ?_
              obtain ⟨xq88_15_1, hxq88_15_2, hj91⟩ := bind_some hj91
              refine TA.takeG 15 rfl rfl rfl rfl hb92 rfl rfl (StepS.idx rfl rfl (OwnS.rd (Ent.at 4 rfl)) ksliceB_22_3_1_true (idx_spec hxq88_15_2).1 (idxm_lt hxq88_15_2)) (by kernel_rfl) (by kernel_rfl) (by kernel_rfl) (by kernel_rfl) (by kernel_rfl) (fun _ s => Sat.by [6, 6, 6, 6, 5, 5] 6 1 (by kernel_rfl) s) ?_
              refine TA.takeG 16 rfl rfl rfl rfl hb92 rfl rfl (StepS.ld0 rfl (OwnS.rd (Ent.at 4 rfl)) kscalB_3_true rfl (idxm hxq88_15_2) rfl) (by kernel_rfl) (by kernel_rfl) (by kernel_rfl) (by kernel_rfl) (by kernel_rfl) (fun _ s => Sat.by [6, 6, 6, 6, 5, 5] 6 1 (by kernel_rfl) s) ?_
              refine TA.takeGW 17 rfl rfl rfl rfl hb92 rfl rfl (StepS.cmp rfl rfl rfl) (by kernel_rfl) (by kernel_rfl) (by kernel_rfl) rfl (.inr (fun _ s => Sat.by [6, 6, 6, 6, 5, 5] 6 1 (by kernel_rfl) s)) ?_
              refine TA.takeW 18 rfl rfl rfl rfl (StepS.pickT rfl hb92 rfl) (by kernel_rfl) (by kernel_rfl) (by kernel_rfl) rfl (.inr (fun _ s => Sat.by [6, 6, 6, 6, 5, 5] 6 1 (by kernel_rfl) s)) ?_
              refine TA.takeW 19 rfl rfl rfl rfl (StepS.fld rfl kfieldB_38_2_2_true) (by kernel_rfl) (by kernel_rfl) (by kernel_rfl) rfl (.inr (fun _ s => Sat.by [6, 6, 6, 6, 5, 5] 6 1 (by kernel_rfl) s)) ?_
              refine TA.all1 (i := 20) (by kernel_rfl) ?_
              refine TB.of rfl ?_
              refine TO.stB (us := [U x67]) 2 [v58, .bool false, U x67, I x81] rfl rfl rfl ksizeB_36_1_true rfl rfl rfl (by simp [Value.oneCell']) rfl ?_
              refine TA.back (.inr (fun _ s => Sat.by [6, 6, 6, 6, 5, 5] 6 1 (by kernel_rfl) s)) ?_
              refine TA.asL (L' := (MF (fun k : Int × Int => .agg #[I k.1, I k.2]) (fun x : Int => I x) r62 (y63) :: OwnS 28 1 v58 (y60.map cI) :: Bx b35 38 [v58, .bool false, U x67, I x81] :: OwnS 3 1 v22 (y64.map cI) :: Bx b13 112 [I x66, U x67, v8, v22, .map (some r62)] :: OwnS 3 1 v8 (y65.map cI) :: Bx b2 38 [.slice none 0 0, .bool false, U 0, I 0] :: L)) (listed' := #[true, true, true, true, true, true, true, true, true, true, true, true, true, true, true, true, true, true, true, true, true, false, false]) (by kernel_rfl) (by kernel_rfl) ?_
              refine TA.takeW 21 rfl rfl rfl rfl (StepS.fld rfl kfieldB_38_1_1_true) (by kernel_rfl) (by kernel_rfl) (by kernel_rfl) rfl (.inr (fun _ s => Sat.by [6, 6, 6, 6, 5, 5] 6 1 (by kernel_rfl) s)) ?_
              refine TA.all1 (i := 22) (by kernel_rfl) ?_
              refine TB.of rfl ?_
              refine TO.stB (us := [.bool (xq88_15_1 == 0)]) 2 [v58, .bool (xq88_15_1 == 0), U x67, I x81] rfl rfl rfl ksizeB_4_1_true rfl rfl rfl (by simp [Value.oneCell']) rfl ?_
              refine TA.back (.inr (fun _ s => Sat.by [6, 6, 6, 6, 5, 5] 6 1 (by kernel_rfl) s)) ?_
              refine TA.asL (L' := (MF (fun k : Int × Int => .agg #[I k.1, I k.2]) (fun x : Int => I x) r62 (y63) :: OwnS 28 1 v58 (y60.map cI) :: Bx b35 38 [v58, .bool (xq88_15_1 == 0), U x67, I x81] :: OwnS 3 1 v22 (y64.map cI) :: Bx b13 112 [I x66, U x67, v8, v22, .map (some r62)] :: OwnS 3 1 v8 (y65.map cI) :: Bx b2 38 [.slice none 0 0, .bool false, U 0, I 0] :: L)) (listed' := #[true, true, true, true, true, true, true, true, true, true, true, true, true, true, true, true, true, true, true, true, true, true, true]) (by kernel_rfl) (by kernel_rfl) ?_
              cases hj91
              refine TA.nil (by kernel_rfl) fun a w e s => ?_
              exact ⟨e.sub (lk_of_allIn ⟨rfl, rfl, trivial⟩), s⟩
            · replace hj91 := cond_f hb92 hj91
              refine TA.skipG 11 rfl rfl rfl rfl (skipF hb92) rfl rfl (by kernel_rfl) (by kernel_rfl) (by kernel_rfl) rfl (.inr (fun _ s => Sat.by [6, 6, 6, 6, 5, 5] 6 1 (by kernel_rfl) s)) ?_
              refine TA.skipG 12 rfl rfl rfl rfl (skipF hb92) rfl rfl (by kernel_rfl) (by kernel_rfl) (by kernel_rfl) rfl (.inr (fun _ s => Sat.by [6, 6, 6, 6, 5, 5] 6 1 (by kernel_rfl) s)) ?_
              refine TA.skipG 13 rfl rfl rfl rfl (skipF hb92) rfl rfl (by kernel_rfl) (by kernel_rfl) (by kernel_rfl) rfl (.inr (fun _ s => Sat.by [6, 6, 6, 6, 5, 5] 6 1 (by kernel_rfl) s)) ?_
              refine TA.skipG 14 rfl rfl rfl rfl (skipF hb92) rfl rfl (by kernel_rfl) (by kernel_rfl) (by kernel_rfl) rfl (.inr (fun _ s => Sat.by [6, 6, 6, 6, 5, 5] 6 1 (by kernel_rfl) s)) ?_
              refine TA.skipG 15 rfl rfl rfl rfl (skipF hb92) rfl rfl (by kernel_rfl) (by kernel_rfl) (by kernel_rfl) rfl (.inr (fun _ s => Sat.by [6, 6, 6, 6, 5, 5] 6 1 (by kernel_rfl) s)) ?_
              refine TA.skipG 16 rfl rfl rfl rfl (skipF hb92) rfl rfl (by kernel_rfl) (by kernel_rfl) (by kernel_rfl) rfl (.inr (fun _ s => Sat.by [6, 6, 6, 6, 5, 5] 6 1 (by kernel_rfl) s)) ?_
              refine TA.skipG 17 rfl rfl rfl rfl (skipF hb92) rfl rfl (by kernel_rfl) (by kernel_rfl) (by kernel_rfl) rfl (.inr (fun _ s => Sat.by [6, 6, 6, 6, 5, 5] 6 1 (by kernel_rfl) s)) ?_
              refine TA.takeW 18 rfl rfl rfl rfl (StepS.pickF rfl hb92 rfl) (by kernel_rfl) (by kernel_rfl) (by kernel_rfl) rfl (.inr (fun _ s => Sat.by [6, 6, 6, 6, 5, 5] 6 1 (by kernel_rfl) s)) ?_
              refine TA.takeW 19 rfl rfl rfl rfl (StepS.fld rfl kfieldB_38_2_2_true) (by kernel_rfl) (by kernel_rfl) (by kernel_rfl) rfl (.inr (fun _ s => Sat.by [6, 6, 6, 6, 5, 5] 6 1 (by kernel_rfl) s)) ?_
              refine TA.all1 (i := 20) (by kernel_rfl) ?_
              refine TB.of rfl ?_
              refine TO.stB (us := [U x67]) 2 [v58, .bool false, U x67, I x81] rfl rfl rfl ksizeB_36_1_true rfl rfl rfl (by simp [Value.oneCell']) rfl ?_
              refine TA.back (.inr (fun _ s => Sat.by [6, 6, 6, 6, 5, 5] 6 1 (by kernel_rfl) s)) ?_
              refine TA.asL (L' := (MF (fun k : Int × Int => .agg #[I k.1, I k.2]) (fun x : Int => I x) r62 (y63) :: OwnS 28 1 v58 (y60.map cI) :: Bx b35 38 [v58, .bool false, U x67, I x81] :: OwnS 3 1 v22 (y64.map cI) :: Bx b13 112 [I x66, U x67, v8, v22, .map (some r62)] :: OwnS 3 1 v8 (y65.map cI) :: Bx b2 38 [.slice none 0 0, .bool false, U 0, I 0] :: L)) (listed' := #[true, true, true, true, true, true, true, true, true, true, true, true, true, true, true, true, true, true, true, true, true, false, false]) (by kernel_rfl) (by kernel_rfl) ?_
              refine TA.takeW 21 rfl rfl rfl rfl (StepS.fld rfl kfieldB_38_1_1_true) (by kernel_rfl) (by kernel_rfl) (by kernel_rfl) rfl (.inr (fun _ s => Sat.by [6, 6, 6, 6, 5, 5] 6 1 (by kernel_rfl) s)) ?_
              refine TA.all1 (i := 22) (by kernel_rfl) ?_
              refine TB.of rfl ?_
              refine TO.stB (us := [.bool false]) 2 [v58, .bool false, U x67, I x81] rfl rfl rfl ksizeB_4_1_true rfl rfl rfl (by simp [Value.oneCell']) rfl ?_
              refine TA.back (.inr (fun _ s => Sat.by [6, 6, 6, 6, 5, 5] 6 1 (by kernel_rfl) s)) ?_
              refine TA.asL (L' := (MF (fun k : Int × Int => .agg #[I k.1, I k.2]) (fun x : Int => I x) r62 (y63) :: OwnS 28 1 v58 (y60.map cI) :: Bx b35 38 [v58, .bool false, U x67, I x81] :: OwnS 3 1 v22 (y64.map cI) :: Bx b13 112 [I x66, U x67, v8, v22, .map (some r62)] :: OwnS 3 1 v8 (y65.map cI) :: Bx b2 38 [.slice none 0 0, .bool false, U 0, I 0] :: L)) (listed' := #[true, true, true, true, true, true, true, true, true, true, true, true, true, true, true, true, true, true, true, true, true, true, true]) (by kernel_rfl) (by kernel_rfl) ?_
              cases hj91
              refine TA.nil (by kernel_rfl) fun a w e s => ?_
              exact ⟨e.sub (lk_of_allIn ⟨rfl, rfl, trivial⟩), s⟩
          · intro a w ⟨he, hs⟩
            refine TC.use ?_ he hs
            refine TC.k ?_
            refine TC.region ?_
            refine TO.s rfl rfl rfl (StepS.ldBA rfl (Ent.at 2 rfl) kaggB_38_4_true rfl rfl) ?_
            refine TO.pure (fun _ s => Rd.one (OwnS.rd (Ent.at 1 rfl)) s) fun oc93 => ?_
            refine TO.stB (us := [v58, .bool b89, U x90, I x81]) 6 [v58, .bool b89, U x90, I x81] rfl rfl rfl ksizeB_38_4_true rfl rfl rfl (by intro u hu; simp only [List.mem_cons, List.not_mem_nil, or_false] at hu; rcases hu with rfl | rfl | rfl | rfl <;> first | exact oc93.1 | rfl) rfl ?_
            refine TO.s rfl rfl rfl (StepS.assign rfl) ?_
            refine TO.code ?_
            cases hm
            refine TC.ret fun a w e s => ?_
            refine FRet.cell2 (P := Try.prog) (fn := Try.f20) e s rfl rfl rfl (Ent.at 6 rfl) kaggB_38_4_true rfl ?_
            refine ⟨_, _, rfl, ⟨(v58), rfl, rfl⟩, ?_⟩
            refine s.mono fun _ s => ?_
            replace s := Sat.front 1 rfl s
            replace s := Sat.erase 1 s
            replace s := Sat.erase 1 s
            replace s := Sat.erase 1 s
            replace s := Sat.erase 1 s
            replace s := Sat.erase 1 s
            replace s := Sat.erase 1 s
            exact s
        · rintro r rfl
          exact fun a w h => h.elim
      · rintro r rfl
        exact fun a w h => h.elim
    · rintro r rfl
      exact fun a w h => h.elim

set_option maxRecDepth 100000 in
theorem C54 {B : World} {L : List HP} {a0 : Int} {a1 : List (Int × Int × Int)} {b1_ : Nat} {h1 : Value} {r0 : Int} (g1 : Ent L (Bx b1_ 116 [h1])) (e1 : Ent L (Rd 3 h1 (a1.map cTiii))) (hm : F54 a0 a1 = some r0) {w : World} (st : St B L w) : Calls Try.prog 54 #[I a0, .pointer (some ⟨b1_, 0, none⟩)] w (fun e w' => (e = .returned (I r0) ∧ St B (L) w')) := by
  refine calls_of (N := 26) (L := L) (args := [I a0, .pointer (some ⟨b1_, 0, none⟩)]) Try.func54 rfl rfl rfl ?_ st
  dsimp only [F54] at hm
  refine TC.k ?_
  refine TC.region ?_
  refine TO.s rfl rfl rfl (StepS.assign rfl) ?_
  refine TO.code ?_
  refine TC.k ?_
  refine TC.region ?_
  refine TO.s rfl rfl rfl (StepS.assign rfl) ?_
  refine TO.code ?_
  refine TC.k ?_
  refine TC.k ?_
  refine TC.region ?_
  refine TO.s rfl rfl rfl (StepS.ldB rfl g1 kscalB_116_true rfl) ?_
  refine TO.s rfl rfl rfl (StepS.lenm rfl e1 ksliceB_116_118_3_true rfl) ?_
  refine TO.s rfl rfl rfl (StepS.move rfl) ?_
  refine TO.code ?_
  obtain ⟨o6, hw7, hm⟩ := bind_some hm
  refine TC.loop hw7 (fun (x1, x2) => fun a w => Mid 26 B [(0, I a0), (4, I x1), (7, h1), (8, I (a1.length : Int)), (9, I x2)] (L) a w) (fun x5 => fun a w => Mid 26 B [(4, I x5)] (L) a w) (fun (_ : Unit) _ _ => False) ?_ ?_ ?_ ?_
  · rintro ⟨x1, x2⟩ o6r hb8 a w ⟨he, hs⟩
    dsimp only [F54_L0] at hb8
    refine TC.use ?_ he hs
    refine TC.k ?_
    refine TC.region ?_
    refine TO.s rfl rfl rfl (StepS.cmp rfl rfl rfl) ?_
    refine TO.code ?_
    refine TC.k ?_
    refine TC.cond rfl (fun hc9 => ?_) (fun hc9 => ?_)
    · replace hb8 := cond_t hc9 hb8
      refine TC.skipk ?_
      refine TC.k ?_
      obtain ⟨x10, hj11, hb8⟩ := bind_some hb8
      first | refine TC.cutM (fun a w => Mid 26 B [(0, I a0), (4, I x10), (7, h1), (8, I (a1.length : Int)), (9, I x2)] (L) a w) ?_ ?_ | refine TC.cutX (fun a w => Mid 26 B [(0, I a0), (4, I x10), (7, h1), (8, I (a1.length : Int)), (9, I x2)] (L) a w) ?_ ?_
      · refine TC.block ?_
        refine TC.k ?_
        refine TC.region ?_
        obtain ⟨x12, hx13, hj11⟩ := bind_some hj11
        refine TO.s rfl rfl rfl (StepS.idx rfl rfl e1 ksliceB_116_118_3_true (idx_spec hx13).1 (idxm_lt hx13)) ?_
        refine TO.s rfl rfl rfl (StepS.ldE rfl e1 kaggB_118_3_true rfl (idxm hx13)) ?_
        refine TO.alloc kinfo_118_bind_zero_some_agg_I_0_I_0_I_0 rfl rfl fun b14 => ?_
        refine TO.stB (us := [I x12.1, I x12.2.1, I x12.2.2]) 0 [I x12.1, I x12.2.1, I x12.2.2] rfl rfl rfl ksizeB_118_3_true rfl rfl rfl (by simp [Value.oneCell']) rfl ?_
        refine TO.code ?_
        refine TC.k ?_
        refine TC.region ?_
        refine TO.s rfl rfl rfl (StepS.fld rfl kfieldB_118_0_0_true) ?_
        refine TO.s rfl rfl rfl (StepS.ldB rfl (Ent.at 0 rfl) kscalB_3_true rfl) ?_
        refine TO.s rfl rfl rfl (StepS.move rfl) ?_
        refine TO.s rfl rfl rfl (StepS.cmp rfl rfl rfl) ?_
        refine TO.s rfl rfl rfl (StepS.move rfl) ?_
        refine TO.mid1 4 21 (.bool ((x12.1 == a0) && (decide (x12.2.2 < 2)))) ?_ ?_
        · refine bcase ((x12.1 == a0)) (fun hb15 => ?_) (fun hb15 => ?_)
          · refine TO.sw rfl rfl rfl hb15 rfl rfl (StepS.fld rfl kfieldB_118_2_2_true) ?_
            refine TO.sw rfl rfl rfl hb15 rfl rfl (StepS.ldB rfl (Ent.at 0 rfl) kscalB_3_true rfl) ?_
            refine TO.sw rfl rfl rfl hb15 rfl rfl (StepS.cmp rfl rfl rfl) ?_
            refine TO.s rfl rfl rfl (StepS.pickT rfl hb15 rfl) ?_
            exact TO.up1 4 0 rfl rfl (by rw [hb15]; rfl) rfl
          · refine TO.skip rfl rfl rfl (skipF hb15) rfl rfl ?_
            refine TO.skip rfl rfl rfl (skipF hb15) rfl rfl ?_
            refine TO.skip rfl rfl rfl (skipF hb15) rfl rfl ?_
            refine TO.s rfl rfl rfl (StepS.pickF rfl hb15 rfl) ?_
            exact TO.up1 4 0 rfl rfl (by rw [hb15]; rfl) rfl
        refine TO.code ?_
        refine TC.cond rfl (fun hc16 => ?_) (fun hc16 => ?_)
        · replace hj11 := cond_t hc16 hj11
          refine TC.region ?_
          refine TO.s rfl rfl rfl (StepS.move rfl) ?_
          refine TO.s rfl rfl rfl (StepS.ari rfl rfl rfl) ?_
          refine TO.s rfl rfl rfl (StepS.assign rfl) ?_
          cases hj11
          refine TO.nil fun a w e s => ?_
          exact ⟨e.sub (lk_of_allIn ⟨rfl, rfl, rfl, rfl, rfl, trivial⟩), s.mono fun _ => Sat.dropN 1⟩
        · replace hj11 := cond_f hc16 hj11
          cases hj11
          refine TC.skip fun a w e s => ?_
          exact ⟨e.sub (lk_of_allIn ⟨rfl, rfl, rfl, rfl, rfl, trivial⟩), s.mono fun _ => Sat.dropN 1⟩
      · intro a w ⟨he, hs⟩
        refine TC.use ?_ he hs
        refine TC.region ?_
        refine TO.s rfl rfl rfl (StepS.ari rfl rfl rfl) ?_
        refine TO.s rfl rfl rfl (StepS.move rfl) ?_
        cases hb8
        refine TO.nil fun a w e s => ?_
        exact ⟨e.sub (lk_of_allIn ⟨rfl, rfl, rfl, rfl, rfl, trivial⟩), s⟩
    · replace hb8 := cond_f hc9 hb8
      cases hb8
      refine TC.exit rfl fun a w e s => ?_
      exact ⟨e.sub (lk_of_allIn ⟨rfl, trivial⟩), s⟩
  · exact fun a w e s => ⟨e.sub (lk_of_allIn ⟨rfl, rfl, rfl, rfl, rfl, trivial⟩), s⟩
  · rintro x5 rfl a w ⟨he, hs⟩
    dsimp only [Ctl.on] at hm
    refine TC.use ?_ he hs
    refine TC.k ?_
    refine TC.region ?_
    refine TO.s rfl rfl rfl (StepS.move rfl) ?_
    refine TO.s rfl rfl rfl (StepS.assign rfl) ?_
    refine TO.code ?_
    cases hm
    refine TC.ret fun a w e s => ?_
    refine FRet.mk1 (P := Try.prog) (fn := Try.f54) (t := 3) e rfl rfl ?_
    exact ⟨rfl, s.mono fun _ => Sat.dropN 0⟩
  · rintro r rfl
    exact fun a w h => h.elim

set_option maxRecDepth 100000 in
theorem C55 {B : World} {L : List HP} {a0 : Int} {a1 : List (Int × Int × Int)} {b1_ : Nat} {h1 : Value} {r0 : Int} (g1 : Ent L (Bx b1_ 116 [h1])) (e1 : Ent L (Rd 3 h1 (a1.map cTiii))) (hm : F55 a0 a1 = some r0) {w : World} (st : St B L w) : Calls Try.prog 55 #[I a0, .pointer (some ⟨b1_, 0, none⟩)] w (fun e w' => (e = .returned (I r0) ∧ St B (L) w')) := by
  refine calls_of (N := 24) (L := L) (args := [I a0, .pointer (some ⟨b1_, 0, none⟩)]) Try.func55 rfl rfl rfl ?_ st
  dsimp only [F55] at hm
  refine TC.k ?_
  refine TC.region ?_
  refine TO.s rfl rfl rfl (StepS.assign rfl) ?_
  refine TO.code ?_
  refine TC.k ?_
  refine TC.k ?_
  refine TC.region ?_
  refine TO.s rfl rfl rfl (StepS.ldB rfl g1 kscalB_116_true rfl) ?_
  refine TO.s rfl rfl rfl (StepS.lenm rfl e1 ksliceB_116_118_3_true rfl) ?_
  refine TO.s rfl rfl rfl (StepS.move rfl) ?_
  refine TO.code ?_
  obtain ⟨o3, hw4, hm⟩ := bind_some hm
  refine TC.loop hw4 (fun x1 => fun a w => Mid 24 B [(0, I a0), (6, h1), (7, I (a1.length : Int)), (8, I x1)] (L) a w) (fun _ => fun a w => Mid 24 B [] (L) a w) (fun r0 => FRet Try.prog Try.f55 (fun e w' => (e = .returned (I r0) ∧ St B (L) w'))) ?_ ?_ ?_ ?_
  · rintro x1 o3r hb5 a w ⟨he, hs⟩
    dsimp only [F55_L0] at hb5
    refine TC.use ?_ he hs
    refine TC.k ?_
    refine TC.region ?_
    refine TO.s rfl rfl rfl (StepS.cmp rfl rfl rfl) ?_
    refine TO.code ?_
    refine TC.k ?_
    refine TC.cond rfl (fun hc6 => ?_) (fun hc6 => ?_)
    · replace hb5 := cond_t hc6 hb5
      refine TC.skipk ?_
      refine TC.k ?_
      refine TC.block ?_
      refine TC.k ?_
      refine TC.region ?_
      refine TO.s rfl rfl rfl (StepS.move rfl) ?_
      obtain ⟨x7, hx8, hb5⟩ := bind_some hb5
      refine TO.s rfl rfl rfl (StepS.idx rfl rfl e1 ksliceB_116_118_3_true (idx_spec hx8).1 (idxm_lt hx8)) ?_
      refine TO.s rfl rfl rfl (StepS.ldE rfl e1 kaggB_118_3_true rfl (idxm hx8)) ?_
      refine TO.alloc kinfo_118_bind_zero_some_agg_I_0_I_0_I_0 rfl rfl fun b9 => ?_
      refine TO.s rfl rfl rfl (StepS.assign rfl) ?_
      refine TO.stB (us := [I x7.1, I x7.2.1, I x7.2.2]) 0 [I x7.1, I x7.2.1, I x7.2.2] rfl rfl rfl ksizeB_118_3_true rfl rfl rfl (by simp [Value.oneCell']) rfl ?_
      refine TO.code ?_
      refine TC.k ?_
      refine TC.region ?_
      refine TO.s rfl rfl rfl (StepS.fld rfl kfieldB_118_1_1_true) ?_
      refine TO.s rfl rfl rfl (StepS.ldB rfl (Ent.at 0 rfl) kscalB_3_true rfl) ?_
      refine TO.s rfl rfl rfl (StepS.move rfl) ?_
      refine TO.s rfl rfl rfl (StepS.cmp rfl rfl rfl) ?_
      refine TO.s rfl rfl rfl (StepS.move rfl) ?_
      refine TO.mid1 4 21 (.bool ((x7.2.1 == a0) && (x7.2.2 == 1))) ?_ ?_
      · refine bcase ((x7.2.1 == a0)) (fun hb10 => ?_) (fun hb10 => ?_)
        · refine TO.sw rfl rfl rfl hb10 rfl rfl (StepS.fld rfl kfieldB_118_2_2_true) ?_
          refine TO.sw rfl rfl rfl hb10 rfl rfl (StepS.ldB rfl (Ent.at 0 rfl) kscalB_3_true rfl) ?_
          refine TO.sw rfl rfl rfl hb10 rfl rfl (StepS.cmp rfl rfl rfl) ?_
          refine TO.s rfl rfl rfl (StepS.pickT rfl hb10 rfl) ?_
          exact TO.up1 4 0 rfl rfl (by rw [hb10]; rfl) rfl
        · refine TO.skip rfl rfl rfl (skipF hb10) rfl rfl ?_
          refine TO.skip rfl rfl rfl (skipF hb10) rfl rfl ?_
          refine TO.skip rfl rfl rfl (skipF hb10) rfl rfl ?_
          refine TO.s rfl rfl rfl (StepS.pickF rfl hb10 rfl) ?_
          exact TO.up1 4 0 rfl rfl (by rw [hb10]; rfl) rfl
      refine TO.code ?_
      refine TC.cond rfl (fun hc11 => ?_) (fun hc11 => ?_)
      · replace hb5 := cond_t hc11 hb5
        refine TC.k ?_
        refine TC.region ?_
        refine TO.s rfl rfl rfl (StepS.move rfl) ?_
        refine TO.s rfl rfl rfl (StepS.assign rfl) ?_
        refine TO.code ?_
        cases hb5
        refine TC.ret fun a w e s => ?_
        refine FRet.mk1 (P := Try.prog) (fn := Try.f55) (t := 3) e rfl rfl ?_
        exact ⟨rfl, s.mono fun _ => Sat.dropN 1⟩
      · replace hb5 := cond_f hc11 hb5
        refine TC.skipk ?_
        refine TC.region ?_
        refine TO.s rfl rfl rfl (StepS.ari rfl rfl rfl) ?_
        refine TO.s rfl rfl rfl (StepS.move rfl) ?_
        cases hb5
        refine TO.nil fun a w e s => ?_
        exact ⟨e.sub (lk_of_allIn ⟨rfl, rfl, rfl, rfl, trivial⟩), s.mono fun _ => Sat.dropN 1⟩
    · replace hb5 := cond_f hc6 hb5
      cases hb5
      refine TC.exit rfl fun a w e s => ?_
      exact ⟨e.sub (lk_of_allIn trivial), s⟩
  · exact fun a w e s => ⟨e.sub (lk_of_allIn ⟨rfl, rfl, rfl, rfl, trivial⟩), s⟩
  · rintro _ rfl a w ⟨he, hs⟩
    dsimp only [Ctl.on] at hm
    refine TC.use ?_ he hs
    refine TC.k ?_
    refine TC.region ?_
    refine TO.s rfl rfl rfl (StepS.assign rfl) ?_
    refine TO.code ?_
    cases hm
    refine TC.ret fun a w e s => ?_
    refine FRet.mk1 (P := Try.prog) (fn := Try.f55) (t := 3) e rfl rfl ?_
    exact ⟨rfl, s.mono fun _ => Sat.dropN 0⟩
  · rintro r rfl
    cases hm
    exact fun a w h => h

set_option maxRecDepth 100000 in
theorem C56 {B : World} {L : List HP} {a0 : Int} {a2 : List Bool} {a4 : List (Int × Int × Int)} {b0_ : Nat} {b1_ : Nat} {b2_ : Nat} {h2_1 : Value} {b3_ : Nat} {b4_ : Nat} {h4_1 : Value} {s0 : List Bool} {s1 : List (Int × Int × Int)} (g0 : Ent L (Bx b0_ 3 [I a0])) (g1 : Ent L (Bx b1_ 119 [.func (.func 55) #[] #[.pointer (some ⟨b4_, 0, none⟩)]])) (g3 : Ent L (Bx b3_ 119 [.func (.func 54) #[] #[.pointer (some ⟨b4_, 0, none⟩)]])) (hm : F56 a0 a2 a4 = some (s0, s1)) {w : World} (st : St B (Bx b2_ 115 [h2_1] :: OwnS 4 1 h2_1 (a2.map cB) :: Bx b4_ 116 [h4_1] :: OwnS 118 3 h4_1 (a4.map cTiii) :: L) w) : Calls Try.prog 56 #[.pointer (some ⟨b0_, 0, none⟩), .pointer (some ⟨b1_, 0, none⟩), .pointer (some ⟨b2_, 0, none⟩), .pointer (some ⟨b3_, 0, none⟩), .pointer (some ⟨b4_, 0, none⟩)] w (fun e w' => ∃ v M, e = .returned v ∧ (∃ (qv1 : Value) (qv2 : Value), v = .tuple #[] ∧ M = (Bx b2_ 115 [qv1] :: OwnS 4 1 qv1 (s0.map cB) :: Bx b4_ 116 [qv2] :: OwnS 118 3 qv2 (s1.map cTiii) :: L)) ∧ St B M w') := by
  refine calls_of (N := 36) (L := (Bx b2_ 115 [h2_1] :: OwnS 4 1 h2_1 (a2.map cB) :: Bx b4_ 116 [h4_1] :: OwnS 118 3 h4_1 (a4.map cTiii) :: L)) (args := [.pointer (some ⟨b0_, 0, none⟩), .pointer (some ⟨b1_, 0, none⟩), .pointer (some ⟨b2_, 0, none⟩), .pointer (some ⟨b3_, 0, none⟩), .pointer (some ⟨b4_, 0, none⟩)]) Try.func56 rfl rfl rfl ?_ st
  dsimp only [F56] at hm
  refine TC.k ?_
  refine TC.region ?_
  refine TO.s rfl rfl rfl (StepS.assign rfl) ?_
  refine TO.code ?_
  obtain ⟨o10, hw11, hm⟩ := bind_some hm
  refine TC.loop hw11 (fun (y5, b6) => fun a w => Mid 36 B [(0, .pointer (some ⟨b0_, 0, none⟩)), (1, .pointer (some ⟨b1_, 0, none⟩)), (2, .pointer (some ⟨b2_, 0, none⟩)), (3, .pointer (some ⟨b3_, 0, none⟩)), (4, .pointer (some ⟨b4_, 0, none⟩)), (5, .bool b6)] (Bx b2_ 115 [h2_1] :: OwnS 4 1 h2_1 (a2.map cB) :: Bx b4_ 116 [h4_1] :: OwnS 118 3 h4_1 (y5.map cTiii) :: L) a w) (fun y9 => fun a w => Mid 36 B [] (Bx b2_ 115 [h2_1] :: OwnS 4 1 h2_1 (a2.map cB) :: Bx b4_ 116 [h4_1] :: OwnS 118 3 h4_1 (y9.map cTiii) :: L) a w) (fun (_ : Unit) _ _ => False) ?_ ?_ ?_ ?_
  · rintro ⟨y5, b6⟩ o10r hb12 a w ⟨he, hs⟩
    dsimp only [F56_L0] at hb12
    refine TC.use ?_ he hs
    refine TC.k ?_
    refine TC.k ?_
    refine TC.region ?_
    refine TO.s rfl rfl rfl (StepS.move rfl) ?_
    refine TO.code ?_
    refine TC.cond rfl (fun hc13 => ?_) (fun hc13 => ?_)
    · replace hb12 := cond_t hc13 hb12
      refine TC.skipk ?_
      refine TC.block ?_
      refine TC.k ?_
      refine TC.region ?_
      refine TO.s rfl rfl rfl (StepS.assign rfl) ?_
      refine TO.code ?_
      refine TC.k ?_
      refine TC.region ?_
      refine TO.s rfl rfl rfl (StepS.assign rfl) ?_
      refine TO.code ?_
      obtain ⟨o22, hw23, hb12⟩ := bind_some hb12
      refine TC.loop hw23 (fun (y14, b15, x16) => fun a w => Mid 36 B [(0, .pointer (some ⟨b0_, 0, none⟩)), (1, .pointer (some ⟨b1_, 0, none⟩)), (2, .pointer (some ⟨b2_, 0, none⟩)), (3, .pointer (some ⟨b3_, 0, none⟩)), (4, .pointer (some ⟨b4_, 0, none⟩)), (5, .bool b15), (6, I x16)] (Bx b2_ 115 [h2_1] :: OwnS 4 1 h2_1 (a2.map cB) :: Bx b4_ 116 [h4_1] :: OwnS 118 3 h4_1 (y14.map cTiii) :: L) a w) (fun (y20, b21) => fun a w => Mid 36 B [(0, .pointer (some ⟨b0_, 0, none⟩)), (1, .pointer (some ⟨b1_, 0, none⟩)), (2, .pointer (some ⟨b2_, 0, none⟩)), (3, .pointer (some ⟨b3_, 0, none⟩)), (4, .pointer (some ⟨b4_, 0, none⟩)), (5, .bool b21)] (Bx b2_ 115 [h2_1] :: OwnS 4 1 h2_1 (a2.map cB) :: Bx b4_ 116 [h4_1] :: OwnS 118 3 h4_1 (y20.map cTiii) :: L) a w) (fun (_ : Unit) _ _ => False) ?_ ?_ ?_ ?_
      · rintro ⟨y14, b15, x16⟩ o22r hb24 a w ⟨he, hs⟩
        dsimp only [F56_L1] at hb24
        refine TC.use ?_ he hs
        refine TC.k ?_
        refine TC.k ?_
        refine TC.region ?_
        refine TO.s rfl rfl rfl (StepS.move rfl) ?_
        refine TO.s rfl rfl rfl (StepS.ldB rfl g0.tl.tl.tl.tl kscalB_3_true rfl) ?_
        refine TO.s rfl rfl rfl (StepS.cmp rfl rfl rfl) ?_
        refine TO.code ?_
        refine TC.cond rfl (fun hc25 => ?_) (fun hc25 => ?_)
        · replace hb24 := cond_t hc25 hb24
          refine TC.skipk ?_
          refine TC.k ?_
          obtain ⟨⟨y26, b27⟩, hj28, hb24⟩ := bind_some hb24
          first | refine TC.cutM (fun a w => Mid 36 B [(0, .pointer (some ⟨b0_, 0, none⟩)), (1, .pointer (some ⟨b1_, 0, none⟩)), (2, .pointer (some ⟨b2_, 0, none⟩)), (3, .pointer (some ⟨b3_, 0, none⟩)), (4, .pointer (some ⟨b4_, 0, none⟩)), (5, .bool b27), (6, I x16)] (Bx b2_ 115 [h2_1] :: OwnS 4 1 h2_1 (a2.map cB) :: Bx b4_ 116 [h4_1] :: OwnS 118 3 h4_1 (y26.map cTiii) :: L) a w) ?_ ?_ | refine TC.cutX (fun a w => Mid 36 B [(0, .pointer (some ⟨b0_, 0, none⟩)), (1, .pointer (some ⟨b1_, 0, none⟩)), (2, .pointer (some ⟨b2_, 0, none⟩)), (3, .pointer (some ⟨b3_, 0, none⟩)), (4, .pointer (some ⟨b4_, 0, none⟩)), (5, .bool b27), (6, I x16)] (Bx b2_ 115 [h2_1] :: OwnS 4 1 h2_1 (a2.map cB) :: Bx b4_ 116 [h4_1] :: OwnS 118 3 h4_1 (y26.map cTiii) :: L) a w) ?_ ?_
          · refine TC.block ?_
            refine TC.k ?_
            refine TC.region ?_
            refine TO.s rfl rfl rfl (StepS.ldB rfl g1.tl.tl.tl.tl kscalB_119_true rfl) ?_
            refine TO.s rfl rfl rfl (StepS.move rfl) ?_
            obtain ⟨r29, hc30, hj28⟩ := bind_some hj28
            refine TO.q rfl rfl rfl (StepQ.callC kcallB_55_true rfl rfl rfl (fun _ st => C55 (Ent.at 2 rfl) (OwnS.rd (Ent.at 3 rfl)) hc30 st)) ?_
            refine TO.s rfl rfl rfl (StepS.assign rfl) ?_
            refine TO.code ?_
            refine TC.k ?_
            refine TC.region ?_
            refine TO.s rfl rfl rfl (StepS.move rfl) ?_
            refine TO.s rfl rfl rfl (StepS.cmp rfl rfl rfl) ?_
            refine TO.s rfl rfl rfl (StepS.move rfl) ?_
            obtain ⟨b32, hj33, hj28⟩ := bind_some hj28
            refine TO.mid1 6 25 (.bool b32) ?_ ?_
            · refine bcase ((decide (r29 ≥ 0))) (fun hb31 => ?_) (fun hb31 => ?_)
              · replace hj33 := cond_t hb31 hj33
                refine TO.sw rfl rfl rfl hb31 rfl rfl (StepS.ldB rfl (Ent.at 0 rfl) kscalB_115_true rfl) ?_
                refine TO.sw rfl rfl rfl hb31 rfl rfl (StepS.move rfl) ?_
                obtain ⟨x34, hx35, hj33⟩ := bind_some hj33
                refine TO.sw rfl rfl rfl hb31 rfl rfl (StepS.idx rfl rfl (OwnS.rd (Ent.at 1 rfl)) ksliceB_115_4_1_true (idx_spec hx35).1 (idxm_lt hx35)) ?_
                refine TO.sw rfl rfl rfl hb31 rfl rfl (StepS.ld0 rfl (OwnS.rd (Ent.at 1 rfl)) kscalB_4_true rfl (idxm hx35) rfl) ?_
                refine TO.sw rfl rfl rfl hb31 rfl rfl (StepS.not rfl) ?_
                cases hj33
                refine TO.s rfl rfl rfl (StepS.pickT rfl hb31 rfl) ?_
                exact TO.up1 6 0 rfl rfl rfl rfl
              · replace hj33 := cond_f hb31 hj33
                cases hj33
                refine TO.skip rfl rfl rfl (skipF hb31) rfl rfl ?_
                refine TO.skip rfl rfl rfl (skipF hb31) rfl rfl ?_
                refine TO.skip rfl rfl rfl (skipF hb31) rfl rfl ?_
                refine TO.skip rfl rfl rfl (skipF hb31) rfl rfl ?_
                refine TO.skip rfl rfl rfl (skipF hb31) rfl rfl ?_
                refine TO.s rfl rfl rfl (StepS.pickF rfl hb31 rfl) ?_
                exact TO.up1 6 0 rfl rfl rfl rfl
            refine TO.s rfl rfl rfl (StepS.move rfl) ?_
            obtain ⟨b37, hj38, hj28⟩ := bind_some hj28
            refine TO.mid1 5 31 (.bool b37) ?_ ?_
            · refine bcase (b32) (fun hb36 => ?_) (fun hb36 => ?_)
              · replace hj38 := cond_t hb36 hj38
                refine TO.sw rfl rfl rfl hb36 rfl rfl (StepS.ldB rfl g3.tl.tl.tl.tl kscalB_119_true rfl) ?_
                refine TO.sw rfl rfl rfl hb36 rfl rfl (StepS.move rfl) ?_
                obtain ⟨r39, hc40, hj38⟩ := bind_some hj38
                refine TO.qw rfl rfl rfl hb36 rfl rfl (StepQ.callC kcallB_54_true rfl rfl rfl (fun _ st => C54 (Ent.at 2 rfl) (OwnS.rd (Ent.at 3 rfl)) hc40 st)) ?_
                refine TO.sw rfl rfl rfl hb36 rfl rfl (StepS.cmp rfl rfl rfl) ?_
                cases hj38
                refine TO.s rfl rfl rfl (StepS.pickT rfl hb36 rfl) ?_
                exact TO.up1 5 0 rfl rfl rfl rfl
              · replace hj38 := cond_f hb36 hj38
                cases hj38
                refine TO.skip rfl rfl rfl (skipF hb36) rfl rfl ?_
                refine TO.skip rfl rfl rfl (skipF hb36) rfl rfl ?_
                refine TO.skip rfl rfl rfl (skipF hb36) rfl rfl ?_
                refine TO.skip rfl rfl rfl (skipF hb36) rfl rfl ?_
                refine TO.s rfl rfl rfl (StepS.pickF rfl hb36 rfl) ?_
                exact TO.up1 5 0 rfl rfl rfl rfl
            refine TO.code ?_
            refine TC.cond rfl (fun hc41 => ?_) (fun hc41 => ?_)
            · replace hj28 := cond_t hc41 hj28
              refine TC.k ?_
              refine TC.region ?_
              refine TO.s rfl rfl rfl (StepS.ldB rfl (Ent.at 2 rfl) kscalB_116_true rfl) ?_
              refine TO.s rfl rfl rfl (StepS.move rfl) ?_
              obtain ⟨x42, hx43, hj28⟩ := bind_some hj28
              refine TO.s rfl rfl rfl (StepS.idx rfl rfl (OwnS.rd (Ent.at 3 rfl)) ksliceB_116_118_3_true (idx_spec hx43).1 (idxm_lt hx43)) ?_
              refine TO.s rfl rfl rfl (StepS.ptrf rfl kfieldB_118_2_2_true) ?_
              refine TO.stO (i := r29.toNat) (off := 2) (us := [I 2]) 3 (x42.1, x42.2.1, 2) rfl rfl rfl ksizeB_3_1_true rfl rfl rfl (idx_spec hx43).2 rfl (by simp [Value.oneCell']) rfl ?_
              refine TO.code ?_
              refine TC.region ?_
              refine TO.s rfl rfl rfl (StepS.assign rfl) ?_
              cases hj28
              refine TO.nil fun a w e s => ?_
              exact ⟨e.sub (lk_of_allIn ⟨rfl, rfl, rfl, rfl, rfl, rfl, rfl, trivial⟩), s⟩
            · replace hj28 := cond_f hc41 hj28
              cases hj28
              refine TC.skip fun a w e s => ?_
              exact ⟨e.sub (lk_of_allIn ⟨rfl, rfl, rfl, rfl, rfl, rfl, rfl, trivial⟩), s⟩
          · intro a w ⟨he, hs⟩
            refine TC.use ?_ he hs
            refine TC.region ?_
            refine TO.s rfl rfl rfl (StepS.move rfl) ?_
            refine TO.s rfl rfl rfl (StepS.ari rfl rfl rfl) ?_
            refine TO.s rfl rfl rfl (StepS.assign rfl) ?_
            cases hb24
            refine TO.nil fun a w e s => ?_
            exact ⟨e.sub (lk_of_allIn ⟨rfl, rfl, rfl, rfl, rfl, rfl, rfl, trivial⟩), s⟩
        · replace hb24 := cond_f hc25 hb24
          cases hb24
          refine TC.exit rfl fun a w e s => ?_
          exact ⟨e.sub (lk_of_allIn ⟨rfl, rfl, rfl, rfl, rfl, rfl, trivial⟩), s⟩
      · exact fun a w e s => ⟨e.sub (lk_of_allIn ⟨rfl, rfl, rfl, rfl, rfl, rfl, rfl, trivial⟩), s⟩
      · rintro ⟨y20, b21⟩ rfl a w ⟨he, hs⟩
        dsimp only [Ctl.on] at hb12
        cases hb12
        have e := he; have s := hs
        exact ⟨e.sub (lk_of_allIn ⟨rfl, rfl, rfl, rfl, rfl, rfl, trivial⟩), s⟩
      · rintro r rfl
        exact fun a w h => h.elim
    · replace hb12 := cond_f hc13 hb12
      cases hb12
      refine TC.exit rfl fun a w e s => ?_
      exact ⟨e.sub (lk_of_allIn trivial), s⟩
  · exact fun a w e s => ⟨e.sub (lk_of_allIn ⟨rfl, rfl, rfl, rfl, rfl, rfl, trivial⟩), s⟩
  · rintro y9 rfl a w ⟨he, hs⟩
    dsimp only [Ctl.on] at hm
    cases hm
    have e := he; have s := hs
    refine FRet.mk0 (P := Try.prog) (fn := Try.f56) e rfl ?_
    refine ⟨_, _, rfl, ⟨(h2_1), (h4_1), rfl, rfl⟩, ?_⟩
    refine s.mono fun _ s => ?_
    replace s := Sat.front 3 rfl s
    replace s := Sat.front 3 rfl s
    replace s := Sat.front 3 rfl s
    replace s := Sat.front 3 rfl s
    exact s
  · rintro r rfl
    exact fun a w h => h.elim

set_option maxHeartbeats 4000000 in
set_option maxRecDepth 100000 in
theorem C22 {B : World} {L : List HP} {a0 : Int} {a1 : List (Int × Int × Int × Int)} {h1 : Value} {r0 : (List Int) × Bool × (BitVec 32) × Int} (e1 : Ent L (Rd 4 h1 (a1.map cTiiii))) (hm : F22 a0 a1 = some r0) {w : World} (st : St B L w) : Calls Try.prog 22 #[I a0, h1] w (fun e w' => ∃ v M, e = .returned v ∧ (∃ (qv1 : Value), v = .agg #[qv1, .bool r0.2.1, U r0.2.2.1, I r0.2.2.2] ∧ M = (OwnS 28 1 qv1 (r0.1.map cI) :: L)) ∧ St B M w') := by
  refine calls_of (N := 211) (L := L) (args := [I a0, h1]) Try.func22 rfl rfl rfl ?_ st
  dsimp only [F22] at hm
  refine TC.k ?_
  refine TC.region ?_
  refine TO.box (cs := [I a0]) rfl rfl rfl fun b2 => ?_
  refine TO.alloc kinfo_38_bind_zero_some_agg_slice_none_0_0_bool_false_U_0_I_0 rfl rfl fun b3 => ?_
  refine TO.code ?_
  refine TC.k ?_
  refine TC.region ?_
  refine TO.s rfl rfl rfl (StepS.ldB rfl (Ent.at 1 rfl) kscalB_3_true rfl) ?_
  obtain ⟨y4, hk5, hm⟩ := bind_some hm
  refine TO.mkS (f := cB) (za := false) kelemB_115_4_1_1_true kinfo_4_bind_zero_some_bool_false rfl (by decide) rfl rfl hk5 rfl fun v6 => ?_
  refine TO.alloc kinfo_115_bind_zero_some_slice_none_0_0 rfl rfl fun b8 => ?_
  refine TO.pure (fun _ s => Rd.one (OwnS.rd (Ent.at 1 rfl)) s) fun oc9 => ?_
  refine TO.stB (us := [v6]) 0 [v6] rfl rfl rfl ksizeB_115_1_true oc9.2 rfl rfl (by intro u hu; simp only [List.mem_cons, List.not_mem_nil, or_false] at hu; rcases hu with rfl <;> first | exact oc9.1 | rfl) rfl ?_
  refine TO.code ?_
  refine TC.k ?_
  refine TC.region ?_
  refine TO.s rfl rfl rfl (StepS.ldB rfl (Ent.at 0 rfl) kscalB_115_true rfl) ?_
  obtain ⟨x10, hx11, hm⟩ := bind_some hm
  refine TO.s rfl rfl rfl (StepS.idx rfl rfl (OwnS.rd (Ent.at 1 rfl)) ksliceB_115_4_1_true (idx_spec hx11).1 (idxm_lt hx11)) ?_
  refine TO.stO (i := (0 : Int).toNat) (off := 0) (us := [.bool true]) 1 true rfl rfl rfl ksizeB_4_1_true rfl rfl rfl (idx_spec hx11).2 rfl (by simp [Value.oneCell']) rfl ?_
  refine TO.code ?_
  refine TC.k ?_
  refine TC.region ?_
  refine TO.alloc kinfo_116_bind_zero_some_slice_none_0_0 rfl rfl fun b12 => ?_
  refine TO.code ?_
  refine TC.k ?_
  refine TC.region ?_
  refine TO.s rfl rfl rfl (StepS.mkfn rfl) ?_
  refine TO.alloc kinfo_119_bind_zero_some_nilFunc rfl rfl fun b13 => ?_
  refine TO.stB (us := [.func (.func 54) #[] #[.pointer (some ⟨b12, 0, none⟩)]]) 0 [.func (.func 54) #[] #[.pointer (some ⟨b12, 0, none⟩)]] rfl rfl rfl ksizeB_119_1_true rfl rfl rfl (by simp [Value.oneCell']) rfl ?_
  refine TO.code ?_
  refine TC.k ?_
  refine TC.region ?_
  refine TO.s rfl rfl rfl (StepS.mkfn rfl) ?_
  refine TO.alloc kinfo_119_bind_zero_some_nilFunc rfl rfl fun b14 => ?_
  refine TO.stB (us := [.func (.func 55) #[] #[.pointer (some ⟨b12, 0, none⟩)]]) 0 [.func (.func 55) #[] #[.pointer (some ⟨b12, 0, none⟩)]] rfl rfl rfl ksizeB_119_1_true rfl rfl rfl (by simp [Value.oneCell']) rfl ?_
  refine TO.code ?_
  refine TC.k ?_
  refine TC.region ?_
  refine TO.s rfl rfl rfl (StepS.mkfn rfl) ?_
  refine TO.s rfl rfl rfl (StepS.assign rfl) ?_
  refine TO.code ?_
  refine TC.k ?_
  refine TC.region ?_
  refine TO.s rfl rfl rfl (StepS.build (cs := [.slice none 0 0, .bool false, U 0, I 0]) rfl (by kernel_rfl)) ?_
  refine TO.alloc kinfo_38_bind_zero_some_agg_slice_none_0_0_bool_false_U_0_I_0 rfl rfl fun b15 => ?_
  refine TO.stB (us := [.slice none 0 0, .bool false, U 0, I 0]) 0 [.slice none 0 0, .bool false, U 0, I 0] rfl rfl rfl ksizeB_38_4_true rfl rfl rfl (by simp [Value.oneCell']) rfl ?_
  refine TO.code ?_
  refine TC.k ?_
  refine TC.k ?_
  refine TC.region ?_
  refine TO.s rfl rfl rfl (StepS.move rfl) ?_
  refine TO.s rfl rfl rfl (StepS.lenm rfl e1.tl.tl.tl.tl.tl.tl.tl.tl ksliceB_23_106_4_true rfl) ?_
  refine TO.s rfl rfl rfl (StepS.move rfl) ?_
  refine TO.code ?_
  obtain ⟨o45, hw46, hm⟩ := bind_some hm
  refine TC.loop hw46 (fun (y18, y21, y24, x25) => fun a w => ∃ v16 : Value, ∃ v19 : Value, ∃ v22 : Value, Mid 211 B [(2, .pointer (some ⟨b2, 0, none⟩)), (4, .pointer (some ⟨b3, 0, none⟩)), (5, .pointer (some ⟨b8, 0, none⟩)), (6, .pointer (some ⟨b12, 0, none⟩)), (7, .pointer (some ⟨b13, 0, none⟩)), (8, .pointer (some ⟨b14, 0, none⟩)), (9, .func (.func 56) #[] #[.pointer (some ⟨b2, 0, none⟩), .pointer (some ⟨b14, 0, none⟩), .pointer (some ⟨b8, 0, none⟩), .pointer (some ⟨b13, 0, none⟩), .pointer (some ⟨b12, 0, none⟩)]), (10, .pointer (some ⟨b15, 0, none⟩)), (28, h1), (29, I (a1.length : Int)), (30, I x25)] (OwnS 28 1 v16 (y18.map cI) :: OwnS 118 3 v19 (y21.map cTiii) :: OwnS 4 1 v22 (y24.map cB) :: Bx b15 38 [v16, .bool false, U 0, I 0] :: Bx b14 119 [.func (.func 55) #[] #[.pointer (some ⟨b12, 0, none⟩)]] :: Bx b13 119 [.func (.func 54) #[] #[.pointer (some ⟨b12, 0, none⟩)]] :: Bx b12 116 [v19] :: Bx b8 115 [v22] :: Bx b3 38 [.slice none 0 0, .bool false, U 0, I 0] :: Bx b2 3 [I a0] :: L) a w) (fun (y38, y41, y44) => fun a w => ∃ v36 : Value, ∃ v39 : Value, ∃ v42 : Value, Mid 211 B [(2, .pointer (some ⟨b2, 0, none⟩)), (4, .pointer (some ⟨b3, 0, none⟩)), (5, .pointer (some ⟨b8, 0, none⟩)), (6, .pointer (some ⟨b12, 0, none⟩)), (7, .pointer (some ⟨b13, 0, none⟩)), (10, .pointer (some ⟨b15, 0, none⟩))] (OwnS 28 1 v36 (y38.map cI) :: OwnS 118 3 v39 (y41.map cTiii) :: OwnS 4 1 v42 (y44.map cB) :: Bx b15 38 [v36, .bool false, U 0, I 0] :: Bx b14 119 [.func (.func 55) #[] #[.pointer (some ⟨b12, 0, none⟩)]] :: Bx b13 119 [.func (.func 54) #[] #[.pointer (some ⟨b12, 0, none⟩)]] :: Bx b12 116 [v39] :: Bx b8 115 [v42] :: Bx b3 38 [.slice none 0 0, .bool false, U 0, I 0] :: Bx b2 3 [I a0] :: L) a w) (fun (_ : Unit) _ _ => False) ?_ ?_ ?_ ?_
  · rintro ⟨y18, y21, y24, x25⟩ o45r hb47 a w ⟨v16, v19, v22, he, hs⟩
    dsimp only [F22_L0] at hb47
    refine TC.use ?_ he hs
    refine TC.k ?_
    refine TC.region ?_
    refine TO.s rfl rfl rfl (StepS.cmp rfl rfl rfl) ?_
    refine TO.code ?_
    refine TC.k ?_
    refine TC.cond rfl (fun hc48 => ?_) (fun hc48 => ?_)
    · replace hb47 := cond_t hc48 hb47
      refine TC.skipk ?_
      refine TC.k ?_
      refine TC.block ?_
      refine TC.k ?_
      refine TC.region ?_
      obtain ⟨x49, hx50, hb47⟩ := bind_some hb47
      refine TO.s rfl rfl rfl (StepS.idx rfl rfl e1.tl.tl.tl.tl.tl.tl.tl.tl.tl.tl ksliceB_23_106_4_true (idx_spec hx50).1 (idxm_lt hx50)) ?_
      refine TO.s rfl rfl rfl (StepS.ldE rfl e1.tl.tl.tl.tl.tl.tl.tl.tl.tl.tl kaggB_106_4_true rfl (idxm hx50)) ?_
      refine TO.alloc kinfo_106_bind_zero_some_agg_I_0_I_0_I_0_I_0 rfl rfl fun b51 => ?_
      refine TO.stB (us := [I x49.1, I x49.2.1, I x49.2.2.1, I x49.2.2.2]) 0 [I x49.1, I x49.2.1, I x49.2.2.1, I x49.2.2.2] rfl rfl rfl ksizeB_106_4_true rfl rfl rfl (by simp [Value.oneCell']) rfl ?_
      refine TO.code ?_
      refine TC.k ?_
      refine TC.region ?_
      refine TO.s rfl rfl rfl (StepS.assign rfl) ?_
      refine TO.code ?_
      refine TC.k ?_
      refine TC.k ?_
      refine TC.region ?_
      refine TO.s rfl rfl rfl (StepS.fld rfl kfieldB_106_0_0_true) ?_
      refine TO.s rfl rfl rfl (StepS.ldB rfl (Ent.at 0 rfl) kscalB_3_true rfl) ?_
      refine TO.s rfl rfl rfl (StepS.cmp rfl rfl rfl) ?_
      refine TO.s rfl rfl rfl (StepS.move rfl) ?_
      refine TO.mid1 4 41 (.bool ((decide (x49.1 < 1)) || (decide (x49.1 > 3)))) ?_ ?_
      · refine bcase ((decide (x49.1 < 1))) (fun hb52 => ?_) (fun hb52 => ?_)
        · refine TO.skip rfl rfl rfl (skipT hb52) rfl rfl ?_
          refine TO.skip rfl rfl rfl (skipT hb52) rfl rfl ?_
          refine TO.skip rfl rfl rfl (skipT hb52) rfl rfl ?_
          refine TO.s rfl rfl rfl (StepS.pickT rfl hb52 rfl) ?_
          exact TO.up1 4 0 rfl rfl (by rw [hb52]; rfl) rfl
        · refine TO.sw rfl rfl rfl hb52 rfl rfl (StepS.fld rfl kfieldB_106_0_0_true) ?_
          refine TO.sw rfl rfl rfl hb52 rfl rfl (StepS.ldB rfl (Ent.at 0 rfl) kscalB_3_true rfl) ?_
          refine TO.sw rfl rfl rfl hb52 rfl rfl (StepS.cmp rfl rfl rfl) ?_
          refine TO.s rfl rfl rfl (StepS.pickF rfl hb52 rfl) ?_
          exact TO.up1 4 0 rfl rfl (by rw [hb52]; rfl) rfl
      refine TO.code ?_
      obtain ⟨⟨y55, y58, x59⟩, hj60, hb47⟩ := bind_some hb47
      first | refine TC.cutM (fun a w => ∃ v53 : Value, ∃ v56 : Value, Mid 211 B [(2, .pointer (some ⟨b2, 0, none⟩)), (4, .pointer (some ⟨b3, 0, none⟩)), (5, .pointer (some ⟨b8, 0, none⟩)), (6, .pointer (some ⟨b12, 0, none⟩)), (7, .pointer (some ⟨b13, 0, none⟩)), (8, .pointer (some ⟨b14, 0, none⟩)), (9, .func (.func 56) #[] #[.pointer (some ⟨b2, 0, none⟩), .pointer (some ⟨b14, 0, none⟩), .pointer (some ⟨b8, 0, none⟩), .pointer (some ⟨b13, 0, none⟩), .pointer (some ⟨b12, 0, none⟩)]), (10, .pointer (some ⟨b15, 0, none⟩)), (13, I x59), (28, h1), (29, I (a1.length : Int)), (30, I x25)] (OwnS 118 3 v53 (y55.map cTiii) :: OwnS 4 1 v56 (y58.map cB) :: Bx b51 106 [I x49.1, I x49.2.1, I x49.2.2.1, I x49.2.2.2] :: OwnS 28 1 v16 (y18.map cI) :: Bx b15 38 [v16, .bool false, U 0, I 0] :: Bx b14 119 [.func (.func 55) #[] #[.pointer (some ⟨b12, 0, none⟩)]] :: Bx b13 119 [.func (.func 54) #[] #[.pointer (some ⟨b12, 0, none⟩)]] :: Bx b12 116 [v53] :: Bx b8 115 [v56] :: Bx b3 38 [.slice none 0 0, .bool false, U 0, I 0] :: Bx b2 3 [I a0] :: L) a w) ?_ ?_ | refine TC.cutX (fun a w => ∃ v53 : Value, ∃ v56 : Value, Mid 211 B [(2, .pointer (some ⟨b2, 0, none⟩)), (4, .pointer (some ⟨b3, 0, none⟩)), (5, .pointer (some ⟨b8, 0, none⟩)), (6, .pointer (some ⟨b12, 0, none⟩)), (7, .pointer (some ⟨b13, 0, none⟩)), (8, .pointer (some ⟨b14, 0, none⟩)), (9, .func (.func 56) #[] #[.pointer (some ⟨b2, 0, none⟩), .pointer (some ⟨b14, 0, none⟩), .pointer (some ⟨b8, 0, none⟩), .pointer (some ⟨b13, 0, none⟩), .pointer (some ⟨b12, 0, none⟩)]), (10, .pointer (some ⟨b15, 0, none⟩)), (13, I x59), (28, h1), (29, I (a1.length : Int)), (30, I x25)] (OwnS 118 3 v53 (y55.map cTiii) :: OwnS 4 1 v56 (y58.map cB) :: Bx b51 106 [I x49.1, I x49.2.1, I x49.2.2.1, I x49.2.2.2] :: OwnS 28 1 v16 (y18.map cI) :: Bx b15 38 [v16, .bool false, U 0, I 0] :: Bx b14 119 [.func (.func 55) #[] #[.pointer (some ⟨b12, 0, none⟩)]] :: Bx b13 119 [.func (.func 54) #[] #[.pointer (some ⟨b12, 0, none⟩)]] :: Bx b12 116 [v53] :: Bx b8 115 [v56] :: Bx b3 38 [.slice none 0 0, .bool false, U 0, I 0] :: Bx b2 3 [I a0] :: L) a w) ?_ ?_
      · refine TC.cond rfl (fun hc61 => ?_) (fun hc61 => ?_)
        · replace hj60 := cond_t hc61 hj60
          refine TC.region ?_
          refine TO.s rfl rfl rfl (StepS.assign rfl) ?_
          cases hj60
          refine TO.nil fun a w e s => ?_
          exact ⟨v19, v22, e.sub (lk_of_allIn ⟨rfl, rfl, rfl, rfl, rfl, rfl, rfl, rfl, rfl, rfl, rfl, rfl, trivial⟩), s.mono fun _ s => (by exact Sat.by [10, 10, 10, 10, 10, 10, 10, 8, 8, 10, 10] 11 0 (by kernel_rfl) s)⟩
        · replace hj60 := cond_f hc61 hj60
          refine TC.k ?_
          refine TC.region ?_
          refine TO.s rfl rfl rfl (StepS.ldB rfl (Ent.at 10 rfl) kscalB_3_true rfl) ?_
          refine TO.s rfl rfl rfl (StepS.ldBA rfl (Ent.at 0 rfl) kaggB_106_4_true rfl rfl) ?_
          refine TO.s rfl rfl rfl (StepS.fld rfl kfieldB_106_0_0_true) ?_
          refine TO.s rfl rfl rfl (StepS.ldB rfl (Ent.at 0 rfl) kscalB_3_true rfl) ?_
          refine TO.s rfl rfl rfl (StepS.cmp rfl rfl rfl) ?_
          obtain ⟨r62, hc63, hj60⟩ := bind_some hj60
          refine TO.q rfl rfl rfl (StepQ.call kcallB_57_true rfl rfl (fun _ st => C57  hc63 st)) ?_
          refine TO.s rfl rfl rfl (StepS.not rfl) ?_
          refine TO.code ?_
          refine TC.cond rfl (fun hc64 => ?_) (fun hc64 => ?_)
          · replace hj60 := cond_t hc64 hj60
            refine TC.region ?_
            refine TO.s rfl rfl rfl (StepS.assign rfl) ?_
            cases hj60
            refine TO.nil fun a w e s => ?_
            exact ⟨v19, v22, e.sub (lk_of_allIn ⟨rfl, rfl, rfl, rfl, rfl, rfl, rfl, rfl, rfl, rfl, rfl, rfl, trivial⟩), s.mono fun _ s => (by exact Sat.by [10, 10, 10, 10, 10, 10, 10, 8, 8, 10, 10] 11 0 (by kernel_rfl) s)⟩
          · replace hj60 := cond_f hc64 hj60
            refine TC.k ?_
            refine TC.region ?_
            refine TO.s rfl rfl rfl (StepS.fld rfl kfieldB_106_0_0_true) ?_
            refine TO.s rfl rfl rfl (StepS.ldB rfl (Ent.at 0 rfl) kscalB_3_true rfl) ?_
            refine TO.s rfl rfl rfl (StepS.cmp rfl rfl rfl) ?_
            refine TO.code ?_
            refine TC.cond rfl (fun hc65 => ?_) (fun hc65 => ?_)
            · replace hj60 := cond_t hc65 hj60
              refine TC.k ?_
              refine TC.region ?_
              refine TO.s rfl rfl rfl (StepS.assign rfl) ?_
              refine TO.code ?_
              refine TC.k ?_
              refine TC.k ?_
              refine TC.region ?_
              refine TO.s rfl rfl rfl (StepS.ldB rfl (Ent.at 7 rfl) kscalB_116_true rfl) ?_
              refine TO.s rfl rfl rfl (StepS.lenm rfl (OwnS.rd (Ent.at 2 rfl)) ksliceB_116_118_3_true rfl) ?_
              refine TO.s rfl rfl rfl (StepS.move rfl) ?_
              refine TO.code ?_
              obtain ⟨o71, hw72, hj60⟩ := bind_some hj60
              refine TC.loop hw72 (fun x66 => fun a w => Mid 211 B [(2, .pointer (some ⟨b2, 0, none⟩)), (4, .pointer (some ⟨b3, 0, none⟩)), (5, .pointer (some ⟨b8, 0, none⟩)), (6, .pointer (some ⟨b12, 0, none⟩)), (7, .pointer (some ⟨b13, 0, none⟩)), (8, .pointer (some ⟨b14, 0, none⟩)), (9, .func (.func 56) #[] #[.pointer (some ⟨b2, 0, none⟩), .pointer (some ⟨b14, 0, none⟩), .pointer (some ⟨b8, 0, none⟩), .pointer (some ⟨b13, 0, none⟩), .pointer (some ⟨b12, 0, none⟩)]), (10, .pointer (some ⟨b15, 0, none⟩)), (12, .pointer (some ⟨b51, 0, none⟩)), (13, I 5), (28, h1), (29, I (a1.length : Int)), (30, I x25), (52, v19), (53, I (y21.length : Int)), (54, I x66)] (Bx b51 106 [I x49.1, I x49.2.1, I x49.2.2.1, I x49.2.2.2] :: OwnS 28 1 v16 (y18.map cI) :: OwnS 118 3 v19 (y21.map cTiii) :: OwnS 4 1 v22 (y24.map cB) :: Bx b15 38 [v16, .bool false, U 0, I 0] :: Bx b14 119 [.func (.func 55) #[] #[.pointer (some ⟨b12, 0, none⟩)]] :: Bx b13 119 [.func (.func 54) #[] #[.pointer (some ⟨b12, 0, none⟩)]] :: Bx b12 116 [v19] :: Bx b8 115 [v22] :: Bx b3 38 [.slice none 0 0, .bool false, U 0, I 0] :: Bx b2 3 [I a0] :: L) a w) (fun (y68, y69, x70) => fun a w => Mid 211 B [(2, .pointer (some ⟨b2, 0, none⟩)), (4, .pointer (some ⟨b3, 0, none⟩)), (5, .pointer (some ⟨b8, 0, none⟩)), (6, .pointer (some ⟨b12, 0, none⟩)), (7, .pointer (some ⟨b13, 0, none⟩)), (8, .pointer (some ⟨b14, 0, none⟩)), (9, .func (.func 56) #[] #[.pointer (some ⟨b2, 0, none⟩), .pointer (some ⟨b14, 0, none⟩), .pointer (some ⟨b8, 0, none⟩), .pointer (some ⟨b13, 0, none⟩), .pointer (some ⟨b12, 0, none⟩)]), (10, .pointer (some ⟨b15, 0, none⟩)), (13, I x70), (28, h1), (29, I (a1.length : Int)), (30, I x25)] (Bx b51 106 [I x49.1, I x49.2.1, I x49.2.2.1, I x49.2.2.2] :: OwnS 28 1 v16 (y18.map cI) :: OwnS 118 3 v19 (y68.map cTiii) :: OwnS 4 1 v22 (y69.map cB) :: Bx b15 38 [v16, .bool false, U 0, I 0] :: Bx b14 119 [.func (.func 55) #[] #[.pointer (some ⟨b12, 0, none⟩)]] :: Bx b13 119 [.func (.func 54) #[] #[.pointer (some ⟨b12, 0, none⟩)]] :: Bx b12 116 [v19] :: Bx b8 115 [v22] :: Bx b3 38 [.slice none 0 0, .bool false, U 0, I 0] :: Bx b2 3 [I a0] :: L) a w) (fun (_ : Unit) _ _ => False) ?_ ?_ ?_ ?_
              · rintro x66 o71r hb73 a w ⟨he, hs⟩
                dsimp only [F22_L1] at hb73
                refine TC.use ?_ he hs
                refine TC.k ?_
                refine TC.region ?_
                refine TO.s rfl rfl rfl (StepS.cmp rfl rfl rfl) ?_
                refine TO.code ?_
                refine TC.k ?_
                refine TC.cond rfl (fun hc74 => ?_) (fun hc74 => ?_)
                · replace hb73 := cond_t hc74 hb73
                  refine TC.skipk ?_
                  refine TC.k ?_
                  refine TC.block ?_
                  refine TC.k ?_
                  refine TC.region ?_
                  refine TO.s rfl rfl rfl (StepS.move rfl) ?_
                  obtain ⟨x75, hx76, hb73⟩ := bind_some hb73
                  refine TO.s rfl rfl rfl (StepS.idx rfl rfl (OwnS.rd (Ent.at 2 rfl)) ksliceB_116_118_3_true (idx_spec hx76).1 (idxm_lt hx76)) ?_
                  refine TO.s rfl rfl rfl (StepS.ldE rfl (OwnS.rd (Ent.at 2 rfl)) kaggB_118_3_true rfl (idxm hx76)) ?_
                  refine TO.alloc kinfo_118_bind_zero_some_agg_I_0_I_0_I_0 rfl rfl fun b77 => ?_
                  refine TO.s rfl rfl rfl (StepS.assign rfl) ?_
                  refine TO.stB (us := [I x75.1, I x75.2.1, I x75.2.2]) 0 [I x75.1, I x75.2.1, I x75.2.2] rfl rfl rfl ksizeB_118_3_true rfl rfl rfl (by simp [Value.oneCell']) rfl ?_
                  refine TO.code ?_
                  refine TC.k ?_
                  refine TC.region ?_
                  refine TO.s rfl rfl rfl (StepS.fld rfl kfieldB_118_0_0_true) ?_
                  refine TO.s rfl rfl rfl (StepS.ldB rfl (Ent.at 0 rfl) kscalB_3_true rfl) ?_
                  refine TO.s rfl rfl rfl (StepS.fld rfl kfieldB_106_1_1_true) ?_
                  refine TO.s rfl rfl rfl (StepS.ldB rfl (Ent.at 1 rfl) kscalB_3_true rfl) ?_
                  refine TO.s rfl rfl rfl (StepS.cmp rfl rfl rfl) ?_
                  refine TO.s rfl rfl rfl (StepS.move rfl) ?_
                  refine TO.mid1 6 70 (.bool ((x75.1 == x49.2.1) && (x75.2.1 == x49.2.2.1))) ?_ ?_
                  · refine bcase ((x75.1 == x49.2.1)) (fun hb78 => ?_) (fun hb78 => ?_)
                    · refine TO.sw rfl rfl rfl hb78 rfl rfl (StepS.fld rfl kfieldB_118_1_1_true) ?_
                      refine TO.sw rfl rfl rfl hb78 rfl rfl (StepS.ldB rfl (Ent.at 0 rfl) kscalB_3_true rfl) ?_
                      refine TO.sw rfl rfl rfl hb78 rfl rfl (StepS.fld rfl kfieldB_106_2_2_true) ?_
                      refine TO.sw rfl rfl rfl hb78 rfl rfl (StepS.ldB rfl (Ent.at 1 rfl) kscalB_3_true rfl) ?_
                      refine TO.sw rfl rfl rfl hb78 rfl rfl (StepS.cmp rfl rfl rfl) ?_
                      refine TO.s rfl rfl rfl (StepS.pickT rfl hb78 rfl) ?_
                      exact TO.up1 6 0 rfl rfl (by rw [hb78]; rfl) rfl
                    · refine TO.skip rfl rfl rfl (skipF hb78) rfl rfl ?_
                      refine TO.skip rfl rfl rfl (skipF hb78) rfl rfl ?_
                      refine TO.skip rfl rfl rfl (skipF hb78) rfl rfl ?_
                      refine TO.skip rfl rfl rfl (skipF hb78) rfl rfl ?_
                      refine TO.skip rfl rfl rfl (skipF hb78) rfl rfl ?_
                      refine TO.s rfl rfl rfl (StepS.pickF rfl hb78 rfl) ?_
                      exact TO.up1 6 0 rfl rfl (by rw [hb78]; rfl) rfl
                  refine TO.s rfl rfl rfl (StepS.move rfl) ?_
                  refine TO.mid1 4 75 (.bool (((x75.1 == x49.2.1) && (x75.2.1 == x49.2.2.1)) && (x75.2.2 == 0))) ?_ ?_
                  · refine bcase (((x75.1 == x49.2.1) && (x75.2.1 == x49.2.2.1))) (fun hb79 => ?_) (fun hb79 => ?_)
                    · refine TO.sw rfl rfl rfl hb79 rfl rfl (StepS.fld rfl kfieldB_118_2_2_true) ?_
                      refine TO.sw rfl rfl rfl hb79 rfl rfl (StepS.ldB rfl (Ent.at 0 rfl) kscalB_3_true rfl) ?_
                      refine TO.sw rfl rfl rfl hb79 rfl rfl (StepS.cmp rfl rfl rfl) ?_
                      refine TO.s rfl rfl rfl (StepS.pickT rfl hb79 rfl) ?_
                      exact TO.up1 4 0 rfl rfl (by rw [hb79]; rfl) rfl
                    · refine TO.skip rfl rfl rfl (skipF hb79) rfl rfl ?_
                      refine TO.skip rfl rfl rfl (skipF hb79) rfl rfl ?_
                      refine TO.skip rfl rfl rfl (skipF hb79) rfl rfl ?_
                      refine TO.s rfl rfl rfl (StepS.pickF rfl hb79 rfl) ?_
                      exact TO.up1 4 0 rfl rfl (by rw [hb79]; rfl) rfl
                  refine TO.code ?_
                  refine TC.cond rfl (fun hc80 => ?_) (fun hc80 => ?_)
                  · replace hb73 := cond_t hc80 hb73
                    refine TC.k ?_
                    refine TC.region ?_
                    refine TO.s rfl rfl rfl (StepS.ldB rfl (Ent.at 8 rfl) kscalB_116_true rfl) ?_
                    refine TO.s rfl rfl rfl (StepS.move rfl) ?_
                    obtain ⟨x81, hx82, hb73⟩ := bind_some hb73
                    refine TO.s rfl rfl rfl (StepS.idx rfl rfl (OwnS.rd (Ent.at 3 rfl)) ksliceB_116_118_3_true (idx_spec hx82).1 (idxm_lt hx82)) ?_
                    refine TO.s rfl rfl rfl (StepS.ptrf rfl kfieldB_118_2_2_true) ?_
                    refine TO.stO (i := x66.toNat) (off := 2) (us := [I 1]) 3 (x81.1, x81.2.1, 1) rfl rfl rfl ksizeB_3_1_true rfl rfl rfl (idx_spec hx82).2 rfl (by simp [Value.oneCell']) rfl ?_
                    refine TO.code ?_
                    refine TC.k ?_
                    refine TC.k ?_
                    refine TC.region ?_
                    refine TO.s rfl rfl rfl (StepS.fld rfl kfieldB_106_2_2_true) ?_
                    refine TO.s rfl rfl rfl (StepS.ldB rfl (Ent.at 1 rfl) kscalB_3_true rfl) ?_
                    refine TO.s rfl rfl rfl (StepS.cmp rfl rfl rfl) ?_
                    refine TO.s rfl rfl rfl (StepS.move rfl) ?_
                    obtain ⟨b84, hj85, hb73⟩ := bind_some hb73
                    refine TO.mid1 14 97 (.bool b84) ?_ ?_
                    · refine bcase ((x49.2.2.1 == 0)) (fun hb83 => ?_) (fun hb83 => ?_)
                      · replace hj85 := cond_t hb83 hj85
                        cases hj85
                        refine TO.skip rfl rfl rfl (skipT hb83) rfl rfl ?_
                        refine TO.skip rfl rfl rfl (skipT hb83) rfl rfl ?_
                        refine TO.skip rfl rfl rfl (skipT hb83) rfl rfl ?_
                        refine TO.skip rfl rfl rfl (skipT hb83) rfl rfl ?_
                        refine TO.skip rfl rfl rfl (skipT hb83) rfl rfl ?_
                        refine TO.skip rfl rfl rfl (skipT hb83) rfl rfl ?_
                        refine TO.skip rfl rfl rfl skipU rfl rfl ?_
                        refine TO.skip rfl rfl rfl skipU rfl rfl ?_
                        refine TO.skip rfl rfl rfl skipU rfl rfl ?_
                        refine TO.skip rfl rfl rfl skipU rfl rfl ?_
                        refine TO.skip rfl rfl rfl skipU rfl rfl ?_
                        refine TO.skip rfl rfl rfl skipU rfl rfl ?_
                        refine TO.skip rfl rfl rfl (skipT hb83) rfl rfl ?_
                        refine TO.s rfl rfl rfl (StepS.pickT rfl hb83 rfl) ?_
                        exact TO.up1 14 0 rfl rfl rfl rfl
                      · replace hj85 := cond_f hb83 hj85
                        refine TO.sw rfl rfl rfl hb83 rfl rfl (StepS.ldB rfl (Ent.at 6 rfl) kscalB_119_true rfl) ?_
                        refine TO.sw rfl rfl rfl hb83 rfl rfl (StepS.fld rfl kfieldB_106_2_2_true) ?_
                        refine TO.sw rfl rfl rfl hb83 rfl rfl (StepS.ldB rfl (Ent.at 1 rfl) kscalB_3_true rfl) ?_
                        obtain ⟨r86, hc87, hj85⟩ := bind_some hj85
                        refine TO.qw rfl rfl rfl hb83 rfl rfl (StepQ.callC kcallB_55_true rfl rfl rfl (fun _ st => C55 (Ent.at 8 rfl) (OwnS.rd (Ent.at 3 rfl)) hc87 st)) ?_
                        refine TO.sw rfl rfl rfl hb83 rfl rfl (StepS.cmp rfl rfl rfl) ?_
                        refine TO.sw rfl rfl rfl hb83 rfl rfl (StepS.move rfl) ?_
                        obtain ⟨b89, hj90, hj85⟩ := bind_some hj85
                        refine TO.mid1 7 96 (.bool b89) ?_ ?_
                        · refine bcase ((decide (r86 ≥ 0))) (fun hb88 => ?_) (fun hb88 => ?_)
                          · replace hj90 := cond_t hb88 hj90
                            refine TO.sw rfl rfl rfl hb88 rfl rfl (StepS.ldB rfl (Ent.at 6 rfl) kscalB_119_true rfl) ?_
                            refine TO.sw rfl rfl rfl hb88 rfl rfl (StepS.fld rfl kfieldB_106_2_2_true) ?_
                            refine TO.sw rfl rfl rfl hb88 rfl rfl (StepS.ldB rfl (Ent.at 1 rfl) kscalB_3_true rfl) ?_
                            obtain ⟨r91, hc92, hj90⟩ := bind_some hj90
                            refine TO.qw rfl rfl rfl hb88 rfl rfl (StepQ.callC kcallB_55_true rfl rfl rfl (fun _ st => C55 (Ent.at 8 rfl) (OwnS.rd (Ent.at 3 rfl)) hc92 st)) ?_
                            refine TO.sw rfl rfl rfl hb88 rfl rfl (StepS.move rfl) ?_
                            refine TO.sw rfl rfl rfl hb88 rfl rfl (StepS.cmp rfl rfl rfl) ?_
                            cases hj90
                            refine TO.sw rfl rfl rfl hb83 rfl rfl (StepS.pickT rfl hb88 rfl) ?_
                            exact TO.up1 7 0 rfl rfl rfl rfl
                          · replace hj90 := cond_f hb88 hj90
                            cases hj90
                            refine TO.skip rfl rfl rfl (skipF hb88) rfl rfl ?_
                            refine TO.skip rfl rfl rfl (skipF hb88) rfl rfl ?_
                            refine TO.skip rfl rfl rfl (skipF hb88) rfl rfl ?_
                            refine TO.skip rfl rfl rfl (skipF hb88) rfl rfl ?_
                            refine TO.skip rfl rfl rfl (skipF hb88) rfl rfl ?_
                            refine TO.skip rfl rfl rfl (skipF hb88) rfl rfl ?_
                            refine TO.sw rfl rfl rfl hb83 rfl rfl (StepS.pickF rfl hb88 rfl) ?_
                            exact TO.up1 7 0 rfl rfl rfl rfl
                        cases hj85
                        refine TO.s rfl rfl rfl (StepS.pickF rfl hb83 rfl) ?_
                        exact TO.up1 8 0 rfl rfl rfl rfl
                    refine TO.code ?_
                    obtain ⟨y93, hj94, hb73⟩ := bind_some hb73
                    first | refine TC.cutM (fun a w => Mid 211 B [(2, .pointer (some ⟨b2, 0, none⟩)), (4, .pointer (some ⟨b3, 0, none⟩)), (5, .pointer (some ⟨b8, 0, none⟩)), (6, .pointer (some ⟨b12, 0, none⟩)), (7, .pointer (some ⟨b13, 0, none⟩)), (8, .pointer (some ⟨b14, 0, none⟩)), (9, .func (.func 56) #[] #[.pointer (some ⟨b2, 0, none⟩), .pointer (some ⟨b14, 0, none⟩), .pointer (some ⟨b8, 0, none⟩), .pointer (some ⟨b13, 0, none⟩), .pointer (some ⟨b12, 0, none⟩)]), (10, .pointer (some ⟨b15, 0, none⟩)), (12, .pointer (some ⟨b51, 0, none⟩)), (14, I x66), (28, h1), (29, I (a1.length : Int)), (30, I x25)] (Bx b77 118 [I x75.1, I x75.2.1, I x75.2.2] :: Bx b51 106 [I x49.1, I x49.2.1, I x49.2.2.1, I x49.2.2.2] :: OwnS 28 1 v16 (y18.map cI) :: OwnS 118 3 v19 (y93.map cTiii) :: OwnS 4 1 v22 (y24.map cB) :: Bx b15 38 [v16, .bool false, U 0, I 0] :: Bx b14 119 [.func (.func 55) #[] #[.pointer (some ⟨b12, 0, none⟩)]] :: Bx b13 119 [.func (.func 54) #[] #[.pointer (some ⟨b12, 0, none⟩)]] :: Bx b12 116 [v19] :: Bx b8 115 [v22] :: Bx b3 38 [.slice none 0 0, .bool false, U 0, I 0] :: Bx b2 3 [I a0] :: L) a w) ?_ ?_ | refine TC.cutX (fun a w => Mid 211 B [(2, .pointer (some ⟨b2, 0, none⟩)), (4, .pointer (some ⟨b3, 0, none⟩)), (5, .pointer (some ⟨b8, 0, none⟩)), (6, .pointer (some ⟨b12, 0, none⟩)), (7, .pointer (some ⟨b13, 0, none⟩)), (8, .pointer (some ⟨b14, 0, none⟩)), (9, .func (.func 56) #[] #[.pointer (some ⟨b2, 0, none⟩), .pointer (some ⟨b14, 0, none⟩), .pointer (some ⟨b8, 0, none⟩), .pointer (some ⟨b13, 0, none⟩), .pointer (some ⟨b12, 0, none⟩)]), (10, .pointer (some ⟨b15, 0, none⟩)), (12, .pointer (some ⟨b51, 0, none⟩)), (14, I x66), (28, h1), (29, I (a1.length : Int)), (30, I x25)] (Bx b77 118 [I x75.1, I x75.2.1, I x75.2.2] :: Bx b51 106 [I x49.1, I x49.2.1, I x49.2.2.1, I x49.2.2.2] :: OwnS 28 1 v16 (y18.map cI) :: OwnS 118 3 v19 (y93.map cTiii) :: OwnS 4 1 v22 (y24.map cB) :: Bx b15 38 [v16, .bool false, U 0, I 0] :: Bx b14 119 [.func (.func 55) #[] #[.pointer (some ⟨b12, 0, none⟩)]] :: Bx b13 119 [.func (.func 54) #[] #[.pointer (some ⟨b12, 0, none⟩)]] :: Bx b12 116 [v19] :: Bx b8 115 [v22] :: Bx b3 38 [.slice none 0 0, .bool false, U 0, I 0] :: Bx b2 3 [I a0] :: L) a w) ?_ ?_
                    · refine TC.cond rfl (fun hc95 => ?_) (fun hc95 => ?_)
                      · replace hj94 := cond_t hc95 hj94
                        refine TC.region ?_
                        refine TO.s rfl rfl rfl (StepS.ldB rfl (Ent.at 8 rfl) kscalB_116_true rfl) ?_
                        refine TO.s rfl rfl rfl (StepS.move rfl) ?_
                        obtain ⟨x96, hx97, hj94⟩ := bind_some hj94
                        refine TO.s rfl rfl rfl (StepS.idx rfl rfl (OwnS.rd (Ent.at 3 rfl)) ksliceB_116_118_3_true (idx_spec hx97).1 (idxm_lt hx97)) ?_
                        refine TO.s rfl rfl rfl (StepS.ptrf rfl kfieldB_118_2_2_true) ?_
                        refine TO.stO (i := x66.toNat) (off := 2) (us := [I 2]) 3 (x96.1, x96.2.1, 2) rfl rfl rfl ksizeB_3_1_true rfl rfl rfl (idx_spec hx97).2 rfl (by simp [Value.oneCell']) rfl ?_
                        cases hj94
                        refine TO.nil fun a w e s => ?_
                        exact ⟨e.sub (lk_of_allIn ⟨rfl, rfl, rfl, rfl, rfl, rfl, rfl, rfl, rfl, rfl, rfl, rfl, rfl, trivial⟩), s⟩
                      · replace hj94 := cond_f hc95 hj94
                        cases hj94
                        refine TC.skip fun a w e s => ?_
                        exact ⟨e.sub (lk_of_allIn ⟨rfl, rfl, rfl, rfl, rfl, rfl, rfl, rfl, rfl, rfl, rfl, rfl, rfl, trivial⟩), s⟩
                    · intro a w ⟨he, hs⟩
                      refine TC.use ?_ he hs
                      refine TC.k ?_
                      refine TC.k ?_
                      refine TC.region ?_
                      refine TO.s rfl rfl rfl (StepS.assign rfl) ?_
                      refine TO.code ?_
                      obtain ⟨o103, hw104, hb73⟩ := bind_some hb73
                      refine TC.loop hw104 (fun (y98, x99) => fun a w => Mid 211 B [(2, .pointer (some ⟨b2, 0, none⟩)), (4, .pointer (some ⟨b3, 0, none⟩)), (5, .pointer (some ⟨b8, 0, none⟩)), (6, .pointer (some ⟨b12, 0, none⟩)), (7, .pointer (some ⟨b13, 0, none⟩)), (8, .pointer (some ⟨b14, 0, none⟩)), (9, .func (.func 56) #[] #[.pointer (some ⟨b2, 0, none⟩), .pointer (some ⟨b14, 0, none⟩), .pointer (some ⟨b8, 0, none⟩), .pointer (some ⟨b13, 0, none⟩), .pointer (some ⟨b12, 0, none⟩)]), (10, .pointer (some ⟨b15, 0, none⟩)), (12, .pointer (some ⟨b51, 0, none⟩)), (14, I x66), (16, I x99), (28, h1), (29, I (a1.length : Int)), (30, I x25)] (Bx b77 118 [I x75.1, I x75.2.1, I x75.2.2] :: Bx b51 106 [I x49.1, I x49.2.1, I x49.2.2.1, I x49.2.2.2] :: OwnS 28 1 v16 (y18.map cI) :: OwnS 118 3 v19 (y98.map cTiii) :: OwnS 4 1 v22 (y24.map cB) :: Bx b15 38 [v16, .bool false, U 0, I 0] :: Bx b14 119 [.func (.func 55) #[] #[.pointer (some ⟨b12, 0, none⟩)]] :: Bx b13 119 [.func (.func 54) #[] #[.pointer (some ⟨b12, 0, none⟩)]] :: Bx b12 116 [v19] :: Bx b8 115 [v22] :: Bx b3 38 [.slice none 0 0, .bool false, U 0, I 0] :: Bx b2 3 [I a0] :: L) a w) (fun y102 => fun a w => Mid 211 B [(2, .pointer (some ⟨b2, 0, none⟩)), (4, .pointer (some ⟨b3, 0, none⟩)), (5, .pointer (some ⟨b8, 0, none⟩)), (6, .pointer (some ⟨b12, 0, none⟩)), (7, .pointer (some ⟨b13, 0, none⟩)), (8, .pointer (some ⟨b14, 0, none⟩)), (9, .func (.func 56) #[] #[.pointer (some ⟨b2, 0, none⟩), .pointer (some ⟨b14, 0, none⟩), .pointer (some ⟨b8, 0, none⟩), .pointer (some ⟨b13, 0, none⟩), .pointer (some ⟨b12, 0, none⟩)]), (10, .pointer (some ⟨b15, 0, none⟩)), (12, .pointer (some ⟨b51, 0, none⟩)), (28, h1), (29, I (a1.length : Int)), (30, I x25)] (Bx b77 118 [I x75.1, I x75.2.1, I x75.2.2] :: Bx b51 106 [I x49.1, I x49.2.1, I x49.2.2.1, I x49.2.2.2] :: OwnS 28 1 v16 (y18.map cI) :: OwnS 118 3 v19 (y102.map cTiii) :: OwnS 4 1 v22 (y24.map cB) :: Bx b15 38 [v16, .bool false, U 0, I 0] :: Bx b14 119 [.func (.func 55) #[] #[.pointer (some ⟨b12, 0, none⟩)]] :: Bx b13 119 [.func (.func 54) #[] #[.pointer (some ⟨b12, 0, none⟩)]] :: Bx b12 116 [v19] :: Bx b8 115 [v22] :: Bx b3 38 [.slice none 0 0, .bool false, U 0, I 0] :: Bx b2 3 [I a0] :: L) a w) (fun (_ : Unit) _ _ => False) ?_ ?_ ?_ ?_
                      · rintro ⟨y98, x99⟩ o103r hb105 a w ⟨he, hs⟩
                        dsimp only [F22_L2] at hb105
                        refine TC.use ?_ he hs
                        refine TC.k ?_
                        refine TC.k ?_
                        refine TC.region ?_
                        refine TO.s rfl rfl rfl (StepS.move rfl) ?_
                        refine TO.s rfl rfl rfl (StepS.ldB rfl (Ent.at 8 rfl) kscalB_116_true rfl) ?_
                        refine TO.s rfl rfl rfl (StepS.lenm rfl (OwnS.rd (Ent.at 3 rfl)) ksliceB_116_118_3_true rfl) ?_
                        refine TO.s rfl rfl rfl (StepS.cmp rfl rfl rfl) ?_
                        refine TO.code ?_
                        refine TC.cond rfl (fun hc106 => ?_) (fun hc106 => ?_)
                        · replace hb105 := cond_t hc106 hb105
                          refine TC.skipk ?_
                          refine TC.k ?_
                          obtain ⟨y107, hj108, hb105⟩ := bind_some hb105
                          first | refine TC.cutM (fun a w => Mid 211 B [(2, .pointer (some ⟨b2, 0, none⟩)), (4, .pointer (some ⟨b3, 0, none⟩)), (5, .pointer (some ⟨b8, 0, none⟩)), (6, .pointer (some ⟨b12, 0, none⟩)), (7, .pointer (some ⟨b13, 0, none⟩)), (8, .pointer (some ⟨b14, 0, none⟩)), (9, .func (.func 56) #[] #[.pointer (some ⟨b2, 0, none⟩), .pointer (some ⟨b14, 0, none⟩), .pointer (some ⟨b8, 0, none⟩), .pointer (some ⟨b13, 0, none⟩), .pointer (some ⟨b12, 0, none⟩)]), (10, .pointer (some ⟨b15, 0, none⟩)), (12, .pointer (some ⟨b51, 0, none⟩)), (14, I x66), (16, I x99), (28, h1), (29, I (a1.length : Int)), (30, I x25)] (Bx b77 118 [I x75.1, I x75.2.1, I x75.2.2] :: Bx b51 106 [I x49.1, I x49.2.1, I x49.2.2.1, I x49.2.2.2] :: OwnS 28 1 v16 (y18.map cI) :: OwnS 118 3 v19 (y107.map cTiii) :: OwnS 4 1 v22 (y24.map cB) :: Bx b15 38 [v16, .bool false, U 0, I 0] :: Bx b14 119 [.func (.func 55) #[] #[.pointer (some ⟨b12, 0, none⟩)]] :: Bx b13 119 [.func (.func 54) #[] #[.pointer (some ⟨b12, 0, none⟩)]] :: Bx b12 116 [v19] :: Bx b8 115 [v22] :: Bx b3 38 [.slice none 0 0, .bool false, U 0, I 0] :: Bx b2 3 [I a0] :: L) a w) ?_ ?_ | refine TC.cutX (fun a w => Mid 211 B [(2, .pointer (some ⟨b2, 0, none⟩)), (4, .pointer (some ⟨b3, 0, none⟩)), (5, .pointer (some ⟨b8, 0, none⟩)), (6, .pointer (some ⟨b12, 0, none⟩)), (7, .pointer (some ⟨b13, 0, none⟩)), (8, .pointer (some ⟨b14, 0, none⟩)), (9, .func (.func 56) #[] #[.pointer (some ⟨b2, 0, none⟩), .pointer (some ⟨b14, 0, none⟩), .pointer (some ⟨b8, 0, none⟩), .pointer (some ⟨b13, 0, none⟩), .pointer (some ⟨b12, 0, none⟩)]), (10, .pointer (some ⟨b15, 0, none⟩)), (12, .pointer (some ⟨b51, 0, none⟩)), (14, I x66), (16, I x99), (28, h1), (29, I (a1.length : Int)), (30, I x25)] (Bx b77 118 [I x75.1, I x75.2.1, I x75.2.2] :: Bx b51 106 [I x49.1, I x49.2.1, I x49.2.2.1, I x49.2.2.2] :: OwnS 28 1 v16 (y18.map cI) :: OwnS 118 3 v19 (y107.map cTiii) :: OwnS 4 1 v22 (y24.map cB) :: Bx b15 38 [v16, .bool false, U 0, I 0] :: Bx b14 119 [.func (.func 55) #[] #[.pointer (some ⟨b12, 0, none⟩)]] :: Bx b13 119 [.func (.func 54) #[] #[.pointer (some ⟨b12, 0, none⟩)]] :: Bx b12 116 [v19] :: Bx b8 115 [v22] :: Bx b3 38 [.slice none 0 0, .bool false, U 0, I 0] :: Bx b2 3 [I a0] :: L) a w) ?_ ?_
                          · refine TC.block ?_
                            refine TC.k ?_
                            refine TC.region_still kfollows_mixedOrders_true (by kernel_rfl) ?_
                            refine TS.s rfl rfl rfl (StepS.move rfl) ?_
                            refine TS.s rfl rfl rfl (StepS.move rfl) ?_
                            refine TS.s rfl rfl rfl (StepS.cmp rfl rfl rfl) ?_
                            refine TS.s rfl rfl rfl (StepS.move rfl) ?_
                            obtain ⟨b110, hj111, hj108⟩ := bind_some hj108
                            refine TS.mid1 9 120 (.bool b110) ?_ ?_
                            · refine bcase ((x99 != x66)) (fun hb109 => ?_) (fun hb109 => ?_)
                              · replace hj111 := cond_t hb109 hj111
                                refine TS.sw rfl rfl rfl hb109 rfl rfl (StepS.ldB rfl (Ent.at 8 rfl) kscalB_116_true rfl) ?_
                                refine TS.sw rfl rfl rfl hb109 rfl rfl (StepS.move rfl) ?_
                                obtain ⟨x112, hx113, hj111⟩ := bind_some hj111
                                refine TS.sw rfl rfl rfl hb109 rfl rfl (StepS.idx rfl rfl (OwnS.rd (Ent.at 3 rfl)) ksliceB_116_118_3_true (idx_spec hx113).1 (idxm_lt hx113)) ?_
                                refine TS.sw rfl rfl rfl hb109 rfl rfl (StepS.ptrf rfl kfieldB_118_1_1_true) ?_
                                refine TS.sw rfl rfl rfl hb109 rfl rfl (StepS.ld1 rfl (OwnS.rd (Ent.at 3 rfl)) kscalB_3_true rfl (idxm hx113) rfl) ?_
                                refine TS.sw rfl rfl rfl hb109 rfl rfl (StepS.fld rfl kfieldB_106_2_2_true) ?_
                                refine TS.sw rfl rfl rfl hb109 rfl rfl (StepS.ldB rfl (Ent.at 1 rfl) kscalB_3_true rfl) ?_
                                refine TS.sw rfl rfl rfl hb109 rfl rfl (StepS.cmp rfl rfl rfl) ?_
                                cases hj111
                                refine TS.s rfl rfl rfl (StepS.pickT rfl hb109 rfl) ?_
                                exact TS.up1 9 0 rfl rfl rfl rfl
                              · replace hj111 := cond_f hb109 hj111
                                cases hj111
                                refine TS.skip rfl rfl rfl (skipF hb109) rfl rfl ?_
                                refine TS.skip rfl rfl rfl (skipF hb109) rfl rfl ?_
                                refine TS.skip rfl rfl rfl (skipF hb109) rfl rfl ?_
                                refine TS.skip rfl rfl rfl (skipF hb109) rfl rfl ?_
                                refine TS.skip rfl rfl rfl (skipF hb109) rfl rfl ?_
                                refine TS.skip rfl rfl rfl (skipF hb109) rfl rfl ?_
                                refine TS.skip rfl rfl rfl (skipF hb109) rfl rfl ?_
                                refine TS.skip rfl rfl rfl (skipF hb109) rfl rfl ?_
                                refine TS.s rfl rfl rfl (StepS.pickF rfl hb109 rfl) ?_
                                exact TS.up1 9 0 rfl rfl rfl rfl
                            refine TS.s rfl rfl rfl (StepS.move rfl) ?_
                            obtain ⟨b115, hj116, hj108⟩ := bind_some hj108
                            refine TS.mid1 7 128 (.bool b115) ?_ ?_
                            · refine bcase (b110) (fun hb114 => ?_) (fun hb114 => ?_)
                              · replace hj116 := cond_t hb114 hj116
                                refine TS.sw rfl rfl rfl hb114 rfl rfl (StepS.ldB rfl (Ent.at 8 rfl) kscalB_116_true rfl) ?_
                                refine TS.sw rfl rfl rfl hb114 rfl rfl (StepS.move rfl) ?_
                                obtain ⟨x117, hx118, hj116⟩ := bind_some hj116
                                refine TS.sw rfl rfl rfl hb114 rfl rfl (StepS.idx rfl rfl (OwnS.rd (Ent.at 3 rfl)) ksliceB_116_118_3_true (idx_spec hx118).1 (idxm_lt hx118)) ?_
                                refine TS.sw rfl rfl rfl hb114 rfl rfl (StepS.ptrf rfl kfieldB_118_2_2_true) ?_
                                refine TS.sw rfl rfl rfl hb114 rfl rfl (StepS.ld1 rfl (OwnS.rd (Ent.at 3 rfl)) kscalB_3_true rfl (idxm hx118) rfl) ?_
                                refine TS.sw rfl rfl rfl hb114 rfl rfl (StepS.cmp rfl rfl rfl) ?_
                                cases hj116
                                refine TS.s rfl rfl rfl (StepS.pickT rfl hb114 rfl) ?_
                                exact TS.up1 7 0 rfl rfl rfl rfl
                              · replace hj116 := cond_f hb114 hj116
                                cases hj116
                                refine TS.skip rfl rfl rfl (skipF hb114) rfl rfl ?_
                                refine TS.skip rfl rfl rfl (skipF hb114) rfl rfl ?_
                                refine TS.skip rfl rfl rfl (skipF hb114) rfl rfl ?_
                                refine TS.skip rfl rfl rfl (skipF hb114) rfl rfl ?_
                                refine TS.skip rfl rfl rfl (skipF hb114) rfl rfl ?_
                                refine TS.skip rfl rfl rfl (skipF hb114) rfl rfl ?_
                                refine TS.s rfl rfl rfl (StepS.pickF rfl hb114 rfl) ?_
                                exact TS.up1 7 0 rfl rfl rfl rfl
                            refine TS.code ?_
                            refine TC.cond rfl (fun hc119 => ?_) (fun hc119 => ?_)
                            · replace hj108 := cond_t hc119 hj108
                              refine TC.region ?_
                              refine TO.s rfl rfl rfl (StepS.ldB rfl (Ent.at 8 rfl) kscalB_116_true rfl) ?_
                              refine TO.s rfl rfl rfl (StepS.move rfl) ?_
                              obtain ⟨x120, hx121, hj108⟩ := bind_some hj108
                              refine TO.s rfl rfl rfl (StepS.idx rfl rfl (OwnS.rd (Ent.at 3 rfl)) ksliceB_116_118_3_true (idx_spec hx121).1 (idxm_lt hx121)) ?_
                              refine TO.s rfl rfl rfl (StepS.ptrf rfl kfieldB_118_2_2_true) ?_
                              refine TO.stO (i := x66.toNat) (off := 2) (us := [I 2]) 3 (x120.1, x120.2.1, 2) rfl rfl rfl ksizeB_3_1_true rfl rfl rfl (idx_spec hx121).2 rfl (by simp [Value.oneCell']) rfl ?_
                              cases hj108
                              refine TO.nil fun a w e s => ?_
                              exact ⟨e.sub (lk_of_allIn ⟨rfl, rfl, rfl, rfl, rfl, rfl, rfl, rfl, rfl, rfl, rfl, rfl, rfl, rfl, trivial⟩), s⟩
                            · replace hj108 := cond_f hc119 hj108
                              cases hj108
                              refine TC.skip fun a w e s => ?_
                              exact ⟨e.sub (lk_of_allIn ⟨rfl, rfl, rfl, rfl, rfl, rfl, rfl, rfl, rfl, rfl, rfl, rfl, rfl, rfl, trivial⟩), s⟩
                          · intro a w ⟨he, hs⟩
                            refine TC.use ?_ he hs
                            refine TC.region ?_
                            refine TO.s rfl rfl rfl (StepS.move rfl) ?_
                            refine TO.s rfl rfl rfl (StepS.ari rfl rfl rfl) ?_
                            refine TO.s rfl rfl rfl (StepS.assign rfl) ?_
                            cases hb105
                            refine TO.nil fun a w e s => ?_
                            exact ⟨e.sub (lk_of_allIn ⟨rfl, rfl, rfl, rfl, rfl, rfl, rfl, rfl, rfl, rfl, rfl, rfl, rfl, rfl, trivial⟩), s⟩
                        · replace hb105 := cond_f hc106 hb105
                          cases hb105
                          refine TC.exit rfl fun a w e s => ?_
                          exact ⟨e.sub (lk_of_allIn ⟨rfl, rfl, rfl, rfl, rfl, rfl, rfl, rfl, rfl, rfl, rfl, rfl, trivial⟩), s⟩
                      · exact fun a w e s => ⟨e.sub (lk_of_allIn ⟨rfl, rfl, rfl, rfl, rfl, rfl, rfl, rfl, rfl, rfl, rfl, rfl, rfl, rfl, trivial⟩), s⟩
                      · rintro y102 rfl a w ⟨he, hs⟩
                        dsimp only [Ctl.on] at hb73
                        refine TC.use ?_ he hs
                        refine TC.k ?_
                        refine TC.region ?_
                        refine TO.s rfl rfl rfl (StepS.ldB rfl (Ent.at 9 rfl) kscalB_115_true rfl) ?_
                        refine TO.s rfl rfl rfl (StepS.fld rfl kfieldB_106_2_2_true) ?_
                        refine TO.s rfl rfl rfl (StepS.ldB rfl (Ent.at 1 rfl) kscalB_3_true rfl) ?_
                        obtain ⟨x122, hx123, hb73⟩ := bind_some hb73
                        refine TO.s rfl rfl rfl (StepS.idx rfl rfl (OwnS.rd (Ent.at 4 rfl)) ksliceB_115_4_1_true (idx_spec hx123).1 (idxm_lt hx123)) ?_
                        refine TO.stO (i := x49.2.2.1.toNat) (off := 0) (us := [.bool true]) 4 true rfl rfl rfl ksizeB_4_1_true rfl rfl rfl (idx_spec hx123).2 rfl (by simp [Value.oneCell']) rfl ?_
                        refine TO.code ?_
                        refine TC.k ?_
                        refine TC.region ?_
                        refine TO.s rfl rfl rfl (StepS.assign rfl) ?_
                        refine TO.code ?_
                        cases hb73
                        refine TC.exit rfl fun a w e s => ?_
                        exact ⟨e.sub (lk_of_allIn ⟨rfl, rfl, rfl, rfl, rfl, rfl, rfl, rfl, rfl, rfl, rfl, rfl, trivial⟩), s.mono fun _ => Sat.dropN 1⟩
                      · rintro r rfl
                        exact fun a w h => h.elim
                  · replace hb73 := cond_f hc80 hb73
                    refine TC.skipk ?_
                    refine TC.region ?_
                    refine TO.s rfl rfl rfl (StepS.ari rfl rfl rfl) ?_
                    refine TO.s rfl rfl rfl (StepS.move rfl) ?_
                    cases hb73
                    refine TO.nil fun a w e s => ?_
                    exact ⟨e.sub (lk_of_allIn ⟨rfl, rfl, rfl, rfl, rfl, rfl, rfl, rfl, rfl, rfl, rfl, rfl, rfl, rfl, rfl, rfl, trivial⟩), s.mono fun _ => Sat.dropN 1⟩
                · replace hb73 := cond_f hc74 hb73
                  cases hb73
                  refine TC.exit rfl fun a w e s => ?_
                  exact ⟨e.sub (lk_of_allIn ⟨rfl, rfl, rfl, rfl, rfl, rfl, rfl, rfl, rfl, rfl, rfl, rfl, trivial⟩), s⟩
              · exact fun a w e s => ⟨e.sub (lk_of_allIn ⟨rfl, rfl, rfl, rfl, rfl, rfl, rfl, rfl, rfl, rfl, rfl, rfl, rfl, rfl, rfl, rfl, trivial⟩), s⟩
              · rintro ⟨y68, y69, x70⟩ rfl a w ⟨he, hs⟩
                dsimp only [Ctl.on] at hj60
                refine TC.use ?_ he hs
                refine TC.region ?_
                refine TO.s rfl rfl rfl (StepS.move rfl) ?_
                refine TO.ghost (fun _ s => Sat.front 2 rfl s) ?_
                refine TO.ghost (fun _ s => Sat.front 7 rfl s) ?_
                refine TO.ghost (fun _ s => Sat.front 4 rfl s) ?_
                refine TO.ghost (fun _ s => Sat.front 8 rfl s) ?_
                obtain ⟨⟨r124, r125⟩, hc126, hj60⟩ := bind_some hj60
                refine TO.callOC kcallB_56_true rfl rfl rfl rfl (fun _ st => C56 (a2 := y69) (a4 := y68) (Ent.at 6 rfl) (Ent.at 3 rfl) (Ent.at 4 rfl) hc126 st) ?_
                rintro _ _ ⟨v127, v129, rfl, rfl⟩
                cases hj60
                refine TO.nil fun a w e s => ?_
                exact ⟨v129, v127, e.sub (lk_of_allIn ⟨rfl, rfl, rfl, rfl, rfl, rfl, rfl, rfl, rfl, rfl, rfl, rfl, trivial⟩), s.mono fun _ s => (by exact Sat.by [10, 10, 2, 4, 10, 10, 10, 10, 10, 9, 10] 11 0 (by kernel_rfl) s)⟩
              · rintro r rfl
                exact fun a w h => h.elim
            · replace hj60 := cond_f hc65 hj60
              refine TC.k ?_
              refine TC.region ?_
              refine TO.s rfl rfl rfl (StepS.ldB rfl (Ent.at 8 rfl) kscalB_115_true rfl) ?_
              refine TO.s rfl rfl rfl (StepS.fld rfl kfieldB_106_1_1_true) ?_
              refine TO.s rfl rfl rfl (StepS.ldB rfl (Ent.at 0 rfl) kscalB_3_true rfl) ?_
              obtain ⟨x131, hx132, hj60⟩ := bind_some hj60
              refine TO.s rfl rfl rfl (StepS.idx rfl rfl (OwnS.rd (Ent.at 3 rfl)) ksliceB_115_4_1_true (idx_spec hx132).1 (idxm_lt hx132)) ?_
              refine TO.s rfl rfl rfl (StepS.ld0 rfl (OwnS.rd (Ent.at 3 rfl)) kscalB_4_true rfl (idxm hx132) rfl) ?_
              refine TO.s rfl rfl rfl (StepS.not rfl) ?_
              refine TO.code ?_
              refine TC.cond rfl (fun hc133 => ?_) (fun hc133 => ?_)
              · replace hj60 := cond_t hc133 hj60
                refine TC.region ?_
                refine TO.s rfl rfl rfl (StepS.assign rfl) ?_
                cases hj60
                refine TO.nil fun a w e s => ?_
                exact ⟨v19, v22, e.sub (lk_of_allIn ⟨rfl, rfl, rfl, rfl, rfl, rfl, rfl, rfl, rfl, rfl, rfl, rfl, trivial⟩), s.mono fun _ s => (by exact Sat.by [10, 10, 10, 10, 10, 10, 10, 8, 8, 10, 10] 11 0 (by kernel_rfl) s)⟩
              · replace hj60 := cond_f hc133 hj60
                refine TC.k ?_
                refine TC.region ?_
                refine TO.s rfl rfl rfl (StepS.fld rfl kfieldB_106_0_0_true) ?_
                refine TO.s rfl rfl rfl (StepS.ldB rfl (Ent.at 0 rfl) kscalB_3_true rfl) ?_
                refine TO.s rfl rfl rfl (StepS.cmp rfl rfl rfl) ?_
                refine TO.code ?_
                refine TC.cond rfl (fun hc134 => ?_) (fun hc134 => ?_)
                · replace hj60 := cond_t hc134 hj60
                  refine TC.k ?_
                  refine TC.region ?_
                  refine TO.s rfl rfl rfl (StepS.ldB rfl (Ent.at 8 rfl) kscalB_115_true rfl) ?_
                  refine TO.s rfl rfl rfl (StepS.fld rfl kfieldB_106_1_1_true) ?_
                  refine TO.s rfl rfl rfl (StepS.ldB rfl (Ent.at 0 rfl) kscalB_3_true rfl) ?_
                  obtain ⟨x135, hx136, hj60⟩ := bind_some hj60
                  refine TO.s rfl rfl rfl (StepS.idx rfl rfl (OwnS.rd (Ent.at 3 rfl)) ksliceB_115_4_1_true (idx_spec hx136).1 (idxm_lt hx136)) ?_
                  refine TO.stO (i := x49.2.1.toNat) (off := 0) (us := [.bool false]) 3 false rfl rfl rfl ksizeB_4_1_true rfl rfl rfl (idx_spec hx136).2 rfl (by simp [Value.oneCell']) rfl ?_
                  refine TO.code ?_
                  refine TC.region ?_
                  refine TO.s rfl rfl rfl (StepS.move rfl) ?_
                  refine TO.ghost (fun _ s => Sat.front 2 rfl s) ?_
                  refine TO.ghost (fun _ s => Sat.front 7 rfl s) ?_
                  refine TO.ghost (fun _ s => Sat.front 4 rfl s) ?_
                  refine TO.ghost (fun _ s => Sat.front 8 rfl s) ?_
                  obtain ⟨⟨r137, r138⟩, hc139, hj60⟩ := bind_some hj60
                  refine TO.callOC kcallB_56_true rfl rfl rfl rfl (fun _ st => C56 (a2 := (y24.set x49.2.1.toNat false)) (a4 := y21) (Ent.at 6 rfl) (Ent.at 3 rfl) (Ent.at 4 rfl) hc139 st) ?_
                  rintro _ _ ⟨v140, v142, rfl, rfl⟩
                  cases hj60
                  refine TO.nil fun a w e s => ?_
                  exact ⟨v142, v140, e.sub (lk_of_allIn ⟨rfl, rfl, rfl, rfl, rfl, rfl, rfl, rfl, rfl, rfl, rfl, rfl, trivial⟩), s.mono fun _ s => (by exact Sat.by [10, 10, 2, 4, 10, 10, 10, 10, 10, 9, 10] 11 0 (by kernel_rfl) s)⟩
                · replace hj60 := cond_f hc134 hj60
                  refine TC.region ?_
                  refine TO.s rfl rfl rfl (StepS.ldB rfl (Ent.at 7 rfl) kscalB_116_true rfl) ?_
                  refine TO.s rfl rfl rfl (StepS.fld rfl kfieldB_106_1_1_true) ?_
                  refine TO.s rfl rfl rfl (StepS.ldB rfl (Ent.at 0 rfl) kscalB_3_true rfl) ?_
                  refine TO.s rfl rfl rfl (StepS.fld rfl kfieldB_106_2_2_true) ?_
                  refine TO.s rfl rfl rfl (StepS.ldB rfl (Ent.at 0 rfl) kscalB_3_true rfl) ?_
                  refine TO.s rfl rfl rfl (StepS.build (cs := [I x49.2.1, I x49.2.2.1, I 0]) rfl (by kernel_rfl)) ?_
                  refine TO.litS (f := cTiii) ([(x49.2.1, x49.2.2.1, 0)] : List (Int × Int × Int)) kelemB_116_118_3_24_true kinfo_118_bind_zero_some_agg_I_0_I_0_I_0 rfl rfl (fun _ => rfl) rfl rfl (by kernel_rfl) rfl fun v144 => ?_
                  obtain ⟨y146, hk147, hj60⟩ := bind_some hj60
                  refine TO.app (k := 3) (f := cTiii) kelemB_116_118_3_24_true (by decide) rfl rfl rfl (OwnS.rd (Ent.at 0 rfl)) hk147 (fun x c hc => by simp [Value.oneCell'] at hc ⊢; first | (obtain rfl := hc; rfl) | (rcases hc with rfl | rfl | rfl <;> rfl)) rfl rfl fun v148 => ?_
                  refine TO.pure (fun _ s => Rd.one (OwnS.rd (Ent.at 3 rfl)) s) fun oc149 => ?_
                  refine TO.stB (us := [v148]) 8 [v148] rfl rfl rfl ksizeB_116_1_true oc149.2 rfl rfl (by intro u hu; simp only [List.mem_cons, List.not_mem_nil, or_false] at hu; rcases hu with rfl <;> first | exact oc149.1 | rfl) rfl ?_
                  cases hj60
                  refine TO.nil fun a w e s => ?_
                  exact ⟨v148, v22, e.sub (lk_of_allIn ⟨rfl, rfl, rfl, rfl, rfl, rfl, rfl, rfl, rfl, rfl, rfl, rfl, trivial⟩), s.mono fun _ s => (by exact Sat.by [11, 11, 11, 11, 11, 11, 11, 9, 9, 11, 11] 11 1 (by kernel_rfl) s)⟩
      · intro a w ⟨v53, v56, he, hs⟩
        refine TC.use ?_ he hs
        refine TC.region ?_
        refine TO.s rfl rfl rfl (StepS.fld rfl kfieldB_38_0_0_true) ?_
        refine TO.s rfl rfl rfl (StepS.ldB rfl (Ent.at 4 rfl) kscalB_24_true rfl) ?_
        refine TO.s rfl rfl rfl (StepS.move rfl) ?_
        refine TO.litS (f := cI) ([x59] : List Int) kelemB_24_28_1_8_true kinfo_28_bind_zero_some_I_0 rfl rfl (fun _ => rfl) rfl rfl (by kernel_rfl) rfl fun v150 => ?_
        obtain ⟨y152, hk153, hb47⟩ := bind_some hb47
        refine TO.app (k := 4) (f := cI) kelemB_24_28_1_8_true (by decide) rfl rfl rfl (OwnS.rd (Ent.at 0 rfl)) hk153 (fun x c hc => by simp [Value.oneCell'] at hc ⊢; first | (obtain rfl := hc; rfl) | (rcases hc with rfl <;> rfl)) rfl rfl fun v154 => ?_
        refine TO.s rfl rfl rfl (StepS.fld rfl kfieldB_38_0_0_true) ?_
        refine TO.pure (fun _ s => Rd.one (OwnS.rd (Ent.at 4 rfl)) s) fun oc155 => ?_
        refine TO.stB (us := [v154]) 5 [v154, .bool false, U 0, I 0] rfl rfl rfl ksizeB_24_1_true oc155.2 rfl rfl (by intro u hu; simp only [List.mem_cons, List.not_mem_nil, or_false] at hu; rcases hu with rfl <;> first | exact oc155.1 | rfl) rfl ?_
        refine TO.code ?_
        refine TC.region ?_
        refine TO.s rfl rfl rfl (StepS.ari rfl rfl rfl) ?_
        refine TO.s rfl rfl rfl (StepS.move rfl) ?_
        cases hb47
        refine TO.nil fun a w e s => ?_
        exact ⟨v154, v53, v56, e.sub (lk_of_allIn ⟨rfl, rfl, rfl, rfl, rfl, rfl, rfl, rfl, rfl, rfl, rfl, trivial⟩), s.mono fun _ s => (by exact Sat.by [11, 11, 11, 11, 11, 11, 11, 9, 9, 11] 10 2 (by kernel_rfl) s)⟩
    · replace hb47 := cond_f hc48 hb47
      cases hb47
      refine TC.exit rfl fun a w e s => ?_
      exact ⟨v16, v19, v22, e.sub (lk_of_allIn ⟨rfl, rfl, rfl, rfl, rfl, rfl, trivial⟩), s⟩
  · exact fun a w e s => ⟨.slice none 0 0, .slice none 0 0, v6, e.sub (lk_of_allIn ⟨rfl, rfl, rfl, rfl, rfl, rfl, rfl, rfl, rfl, rfl, rfl, trivial⟩), s.mono fun _ s => (by replace s := Sat.nilS (e := 118) (sz := 3) (f := cTiii) s; replace s := Sat.nilS (e := 28) (sz := 1) (f := cI) s; exact Sat.by [9, 9, 8, 8, 8, 8, 8, 9, 9, 9] 10 0 (by kernel_rfl) s)⟩
  · rintro ⟨y38, y41, y44⟩ rfl a w ⟨v36, v39, v42, he, hs⟩
    dsimp only [Ctl.on] at hm
    refine TC.use ?_ he hs
    refine TC.k ?_
    refine TC.k ?_
    refine TC.region ?_
    refine TO.s rfl rfl rfl (StepS.assign rfl) ?_
    refine TO.code ?_
    obtain ⟨o161, hw162, hm⟩ := bind_some hm
    refine TC.loop hw162 (fun (x156, x157) => fun a w => Mid 211 B [(2, .pointer (some ⟨b2, 0, none⟩)), (4, .pointer (some ⟨b3, 0, none⟩)), (5, .pointer (some ⟨b8, 0, none⟩)), (6, .pointer (some ⟨b12, 0, none⟩)), (7, .pointer (some ⟨b13, 0, none⟩)), (10, .pointer (some ⟨b15, 0, none⟩)), (17, I x157)] (OwnS 28 1 v36 (y38.map cI) :: OwnS 118 3 v39 (y41.map cTiii) :: OwnS 4 1 v42 (y44.map cB) :: Bx b15 38 [v36, .bool false, U x156, I 0] :: Bx b14 119 [.func (.func 55) #[] #[.pointer (some ⟨b12, 0, none⟩)]] :: Bx b13 119 [.func (.func 54) #[] #[.pointer (some ⟨b12, 0, none⟩)]] :: Bx b12 116 [v39] :: Bx b8 115 [v42] :: Bx b3 38 [.slice none 0 0, .bool false, U 0, I 0] :: Bx b2 3 [I a0] :: L) a w) (fun x160 => fun a w => Mid 211 B [(4, .pointer (some ⟨b3, 0, none⟩)), (5, .pointer (some ⟨b8, 0, none⟩)), (6, .pointer (some ⟨b12, 0, none⟩)), (7, .pointer (some ⟨b13, 0, none⟩)), (10, .pointer (some ⟨b15, 0, none⟩))] (OwnS 28 1 v36 (y38.map cI) :: OwnS 118 3 v39 (y41.map cTiii) :: OwnS 4 1 v42 (y44.map cB) :: Bx b15 38 [v36, .bool false, U x160, I 0] :: Bx b14 119 [.func (.func 55) #[] #[.pointer (some ⟨b12, 0, none⟩)]] :: Bx b13 119 [.func (.func 54) #[] #[.pointer (some ⟨b12, 0, none⟩)]] :: Bx b12 116 [v39] :: Bx b8 115 [v42] :: Bx b3 38 [.slice none 0 0, .bool false, U 0, I 0] :: Bx b2 3 [I a0] :: L) a w) (fun (_ : Unit) _ _ => False) ?_ ?_ ?_ ?_
    · rintro ⟨x156, x157⟩ o161r hb163 a w ⟨he, hs⟩
      dsimp only [F22_L3] at hb163
      refine TC.use ?_ he hs
      refine TC.k ?_
      refine TC.k ?_
      refine TC.region ?_
      refine TO.s rfl rfl rfl (StepS.move rfl) ?_
      refine TO.s rfl rfl rfl (StepS.ldB rfl (Ent.at 9 rfl) kscalB_3_true rfl) ?_
      refine TO.s rfl rfl rfl (StepS.cmp rfl rfl rfl) ?_
      refine TO.code ?_
      refine TC.cond rfl (fun hc164 => ?_) (fun hc164 => ?_)
      · replace hb163 := cond_t hc164 hb163
        refine TC.skipk ?_
        refine TC.k ?_
        obtain ⟨x165, hj166, hb163⟩ := bind_some hb163
        first | refine TC.cutM (fun a w => Mid 211 B [(2, .pointer (some ⟨b2, 0, none⟩)), (4, .pointer (some ⟨b3, 0, none⟩)), (5, .pointer (some ⟨b8, 0, none⟩)), (6, .pointer (some ⟨b12, 0, none⟩)), (7, .pointer (some ⟨b13, 0, none⟩)), (10, .pointer (some ⟨b15, 0, none⟩)), (17, I x157)] (OwnS 28 1 v36 (y38.map cI) :: OwnS 118 3 v39 (y41.map cTiii) :: OwnS 4 1 v42 (y44.map cB) :: Bx b15 38 [v36, .bool false, U x165, I 0] :: Bx b14 119 [.func (.func 55) #[] #[.pointer (some ⟨b12, 0, none⟩)]] :: Bx b13 119 [.func (.func 54) #[] #[.pointer (some ⟨b12, 0, none⟩)]] :: Bx b12 116 [v39] :: Bx b8 115 [v42] :: Bx b3 38 [.slice none 0 0, .bool false, U 0, I 0] :: Bx b2 3 [I a0] :: L) a w) ?_ ?_ | refine TC.cutX (fun a w => Mid 211 B [(2, .pointer (some ⟨b2, 0, none⟩)), (4, .pointer (some ⟨b3, 0, none⟩)), (5, .pointer (some ⟨b8, 0, none⟩)), (6, .pointer (some ⟨b12, 0, none⟩)), (7, .pointer (some ⟨b13, 0, none⟩)), (10, .pointer (some ⟨b15, 0, none⟩)), (17, I x157)] (OwnS 28 1 v36 (y38.map cI) :: OwnS 118 3 v39 (y41.map cTiii) :: OwnS 4 1 v42 (y44.map cB) :: Bx b15 38 [v36, .bool false, U x165, I 0] :: Bx b14 119 [.func (.func 55) #[] #[.pointer (some ⟨b12, 0, none⟩)]] :: Bx b13 119 [.func (.func 54) #[] #[.pointer (some ⟨b12, 0, none⟩)]] :: Bx b12 116 [v39] :: Bx b8 115 [v42] :: Bx b3 38 [.slice none 0 0, .bool false, U 0, I 0] :: Bx b2 3 [I a0] :: L) a w) ?_ ?_
        · refine TC.block ?_
          refine TC.k ?_
          refine TC.region ?_
          refine TO.s rfl rfl rfl (StepS.ldB rfl (Ent.at 7 rfl) kscalB_115_true rfl) ?_
          refine TO.s rfl rfl rfl (StepS.move rfl) ?_
          obtain ⟨x167, hx168, hj166⟩ := bind_some hj166
          refine TO.s rfl rfl rfl (StepS.idx rfl rfl (OwnS.rd (Ent.at 2 rfl)) ksliceB_115_4_1_true (idx_spec hx168).1 (idxm_lt hx168)) ?_
          refine TO.s rfl rfl rfl (StepS.ld0 rfl (OwnS.rd (Ent.at 2 rfl)) kscalB_4_true rfl (idxm hx168) rfl) ?_
          refine TO.code ?_
          refine TC.cond rfl (fun hc169 => ?_) (fun hc169 => ?_)
          · replace hj166 := cond_t hc169 hj166
            refine TC.region ?_
            refine TO.s rfl rfl rfl (StepS.fld rfl kfieldB_38_2_2_true) ?_
            refine TO.s rfl rfl rfl (StepS.ldB rfl (Ent.at 3 rfl) kscalB_36_true rfl) ?_
            refine TO.s rfl rfl rfl (StepS.move rfl) ?_
            refine TO.s rfl rfl rfl (StepS.cvIV kintB_3_i64_true kintB_108_u64_true rfl) ?_
            refine TO.s rfl rfl rfl (StepS.shl (m := 1#32) rfl rfl (u64_nonneg _)) ?_
            refine TO.s rfl rfl rfl (StepS.bitU rfl rfl rfl) ?_
            refine TO.s rfl rfl rfl (StepS.fld rfl kfieldB_38_2_2_true) ?_
            refine TO.stB (us := [U (x156 + ((1#32) <<< (u64 x157).toNat))]) 3 [v36, .bool false, U (x156 + ((1#32) <<< (u64 x157).toNat)), I 0] rfl rfl rfl ksizeB_36_1_true rfl rfl rfl (by simp [Value.oneCell']) rfl ?_
            cases hj166
            refine TO.nil fun a w e s => ?_
            exact ⟨e.sub (lk_of_allIn ⟨rfl, rfl, rfl, rfl, rfl, rfl, rfl, trivial⟩), s⟩
          · replace hj166 := cond_f hc169 hj166
            cases hj166
            refine TC.skip fun a w e s => ?_
            exact ⟨e.sub (lk_of_allIn ⟨rfl, rfl, rfl, rfl, rfl, rfl, rfl, trivial⟩), s⟩
        · intro a w ⟨he, hs⟩
          refine TC.use ?_ he hs
          refine TC.region ?_
          refine TO.s rfl rfl rfl (StepS.move rfl) ?_
          refine TO.s rfl rfl rfl (StepS.ari rfl rfl rfl) ?_
          refine TO.s rfl rfl rfl (StepS.assign rfl) ?_
          cases hb163
          refine TO.nil fun a w e s => ?_
          exact ⟨e.sub (lk_of_allIn ⟨rfl, rfl, rfl, rfl, rfl, rfl, rfl, trivial⟩), s⟩
      · replace hb163 := cond_f hc164 hb163
        cases hb163
        refine TC.exit rfl fun a w e s => ?_
        exact ⟨e.sub (lk_of_allIn ⟨rfl, rfl, rfl, rfl, rfl, trivial⟩), s⟩
    · exact fun a w e s => ⟨e.sub (lk_of_allIn ⟨rfl, rfl, rfl, rfl, rfl, rfl, rfl, trivial⟩), s⟩
    · rintro x160 rfl a w ⟨he, hs⟩
      dsimp only [Ctl.on] at hm
      refine TC.use ?_ he hs
      refine TC.k ?_
      refine TC.k ?_
      refine TC.region ?_
      refine TO.s rfl rfl rfl (StepS.ldB rfl (Ent.at 6 rfl) kscalB_116_true rfl) ?_
      refine TO.s rfl rfl rfl (StepS.lenm rfl (OwnS.rd (Ent.at 1 rfl)) ksliceB_116_118_3_true rfl) ?_
      refine TO.s rfl rfl rfl (StepS.move rfl) ?_
      refine TO.code ?_
      obtain ⟨o175, hw176, hm⟩ := bind_some hm
      refine TC.loop hw176 (fun (x170, x171) => fun a w => Mid 211 B [(4, .pointer (some ⟨b3, 0, none⟩)), (5, .pointer (some ⟨b8, 0, none⟩)), (7, .pointer (some ⟨b13, 0, none⟩)), (10, .pointer (some ⟨b15, 0, none⟩)), (186, v39), (187, I (y41.length : Int)), (188, I x171)] (OwnS 28 1 v36 (y38.map cI) :: OwnS 118 3 v39 (y41.map cTiii) :: OwnS 4 1 v42 (y44.map cB) :: Bx b15 38 [v36, .bool false, U x160, I x170] :: Bx b14 119 [.func (.func 55) #[] #[.pointer (some ⟨b12, 0, none⟩)]] :: Bx b13 119 [.func (.func 54) #[] #[.pointer (some ⟨b12, 0, none⟩)]] :: Bx b12 116 [v39] :: Bx b8 115 [v42] :: Bx b3 38 [.slice none 0 0, .bool false, U 0, I 0] :: Bx b2 3 [I a0] :: L) a w) (fun x174 => fun a w => Mid 211 B [(4, .pointer (some ⟨b3, 0, none⟩)), (5, .pointer (some ⟨b8, 0, none⟩)), (7, .pointer (some ⟨b13, 0, none⟩)), (10, .pointer (some ⟨b15, 0, none⟩))] (OwnS 28 1 v36 (y38.map cI) :: OwnS 118 3 v39 (y41.map cTiii) :: OwnS 4 1 v42 (y44.map cB) :: Bx b15 38 [v36, .bool false, U x160, I x174] :: Bx b14 119 [.func (.func 55) #[] #[.pointer (some ⟨b12, 0, none⟩)]] :: Bx b13 119 [.func (.func 54) #[] #[.pointer (some ⟨b12, 0, none⟩)]] :: Bx b12 116 [v39] :: Bx b8 115 [v42] :: Bx b3 38 [.slice none 0 0, .bool false, U 0, I 0] :: Bx b2 3 [I a0] :: L) a w) (fun (_ : Unit) _ _ => False) ?_ ?_ ?_ ?_
      · rintro ⟨x170, x171⟩ o175r hb177 a w ⟨he, hs⟩
        dsimp only [F22_L4] at hb177
        refine TC.use ?_ he hs
        refine TC.k ?_
        refine TC.region ?_
        refine TO.s rfl rfl rfl (StepS.cmp rfl rfl rfl) ?_
        refine TO.code ?_
        refine TC.k ?_
        refine TC.cond rfl (fun hc178 => ?_) (fun hc178 => ?_)
        · replace hb177 := cond_t hc178 hb177
          refine TC.skipk ?_
          refine TC.k ?_
          obtain ⟨x179, hj180, hb177⟩ := bind_some hb177
          first | refine TC.cutM (fun a w => Mid 211 B [(4, .pointer (some ⟨b3, 0, none⟩)), (5, .pointer (some ⟨b8, 0, none⟩)), (7, .pointer (some ⟨b13, 0, none⟩)), (10, .pointer (some ⟨b15, 0, none⟩)), (186, v39), (187, I (y41.length : Int)), (188, I x171)] (OwnS 28 1 v36 (y38.map cI) :: OwnS 118 3 v39 (y41.map cTiii) :: OwnS 4 1 v42 (y44.map cB) :: Bx b15 38 [v36, .bool false, U x160, I x179] :: Bx b14 119 [.func (.func 55) #[] #[.pointer (some ⟨b12, 0, none⟩)]] :: Bx b13 119 [.func (.func 54) #[] #[.pointer (some ⟨b12, 0, none⟩)]] :: Bx b12 116 [v39] :: Bx b8 115 [v42] :: Bx b3 38 [.slice none 0 0, .bool false, U 0, I 0] :: Bx b2 3 [I a0] :: L) a w) ?_ ?_ | refine TC.cutX (fun a w => Mid 211 B [(4, .pointer (some ⟨b3, 0, none⟩)), (5, .pointer (some ⟨b8, 0, none⟩)), (7, .pointer (some ⟨b13, 0, none⟩)), (10, .pointer (some ⟨b15, 0, none⟩)), (186, v39), (187, I (y41.length : Int)), (188, I x171)] (OwnS 28 1 v36 (y38.map cI) :: OwnS 118 3 v39 (y41.map cTiii) :: OwnS 4 1 v42 (y44.map cB) :: Bx b15 38 [v36, .bool false, U x160, I x179] :: Bx b14 119 [.func (.func 55) #[] #[.pointer (some ⟨b12, 0, none⟩)]] :: Bx b13 119 [.func (.func 54) #[] #[.pointer (some ⟨b12, 0, none⟩)]] :: Bx b12 116 [v39] :: Bx b8 115 [v42] :: Bx b3 38 [.slice none 0 0, .bool false, U 0, I 0] :: Bx b2 3 [I a0] :: L) a w) ?_ ?_
          · refine TC.block ?_
            refine TC.k ?_
            refine TC.region ?_
            obtain ⟨x181, hx182, hj180⟩ := bind_some hj180
            refine TO.s rfl rfl rfl (StepS.idx rfl rfl (OwnS.rd (Ent.at 1 rfl)) ksliceB_116_118_3_true (idx_spec hx182).1 (idxm_lt hx182)) ?_
            refine TO.s rfl rfl rfl (StepS.ldE rfl (OwnS.rd (Ent.at 1 rfl)) kaggB_118_3_true rfl (idxm hx182)) ?_
            refine TO.alloc kinfo_118_bind_zero_some_agg_I_0_I_0_I_0 rfl rfl fun b183 => ?_
            refine TO.stB (us := [I x181.1, I x181.2.1, I x181.2.2]) 0 [I x181.1, I x181.2.1, I x181.2.2] rfl rfl rfl ksizeB_118_3_true rfl rfl rfl (by simp [Value.oneCell']) rfl ?_
            refine TO.code ?_
            refine TC.k ?_
            refine TC.region ?_
            refine TO.s rfl rfl rfl (StepS.fld rfl kfieldB_118_2_2_true) ?_
            refine TO.s rfl rfl rfl (StepS.ldB rfl (Ent.at 0 rfl) kscalB_3_true rfl) ?_
            refine TO.s rfl rfl rfl (StepS.cmp rfl rfl rfl) ?_
            refine TO.code ?_
            refine TC.cond rfl (fun hc184 => ?_) (fun hc184 => ?_)
            · replace hj180 := cond_t hc184 hj180
              refine TC.region ?_
              refine TO.s rfl rfl rfl (StepS.fld rfl kfieldB_38_3_3_true) ?_
              refine TO.s rfl rfl rfl (StepS.ldB rfl (Ent.at 4 rfl) kscalB_3_true rfl) ?_
              refine TO.s rfl rfl rfl (StepS.ari rfl rfl rfl) ?_
              refine TO.s rfl rfl rfl (StepS.fld rfl kfieldB_38_3_3_true) ?_
              refine TO.stB (us := [I (w64 (x170 + 1))]) 4 [v36, .bool false, U x160, I (w64 (x170 + 1))] rfl rfl rfl ksizeB_3_1_true rfl rfl rfl (by simp [Value.oneCell']) rfl ?_
              cases hj180
              refine TO.nil fun a w e s => ?_
              exact ⟨e.sub (lk_of_allIn ⟨rfl, rfl, rfl, rfl, rfl, rfl, rfl, trivial⟩), s.mono fun _ => Sat.dropN 1⟩
            · replace hj180 := cond_f hc184 hj180
              cases hj180
              refine TC.skip fun a w e s => ?_
              exact ⟨e.sub (lk_of_allIn ⟨rfl, rfl, rfl, rfl, rfl, rfl, rfl, trivial⟩), s.mono fun _ => Sat.dropN 1⟩
          · intro a w ⟨he, hs⟩
            refine TC.use ?_ he hs
            refine TC.region ?_
            refine TO.s rfl rfl rfl (StepS.ari rfl rfl rfl) ?_
            refine TO.s rfl rfl rfl (StepS.move rfl) ?_
            cases hb177
            refine TO.nil fun a w e s => ?_
            exact ⟨e.sub (lk_of_allIn ⟨rfl, rfl, rfl, rfl, rfl, rfl, rfl, trivial⟩), s⟩
        · replace hb177 := cond_f hc178 hb177
          cases hb177
          refine TC.exit rfl fun a w e s => ?_
          exact ⟨e.sub (lk_of_allIn ⟨rfl, rfl, rfl, rfl, trivial⟩), s⟩
      · exact fun a w e s => ⟨e.sub (lk_of_allIn ⟨rfl, rfl, rfl, rfl, rfl, rfl, rfl, trivial⟩), s⟩
      · rintro x174 rfl a w ⟨he, hs⟩
        dsimp only [Ctl.on] at hm
        refine TC.use ?_ he hs
        refine TC.k ?_
        refine TC.region ?_
        refine TO.s rfl rfl rfl (StepS.ldB rfl (Ent.at 7 rfl) kscalB_115_true rfl) ?_
        obtain ⟨x185, hx186, hm⟩ := bind_some hm
        refine TO.s rfl rfl rfl (StepS.idx rfl rfl (OwnS.rd (Ent.at 2 rfl)) ksliceB_115_4_1_true (idx_spec hx186).1 (idxm_lt hx186)) ?_
        refine TO.s rfl rfl rfl (StepS.ld0 rfl (OwnS.rd (Ent.at 2 rfl)) kscalB_4_true rfl (idxm hx186) rfl) ?_
        refine TO.s rfl rfl rfl (StepS.not rfl) ?_
        refine TO.s rfl rfl rfl (StepS.move rfl) ?_
        obtain ⟨b188, hj189, hm⟩ := bind_some hm
        refine TO.mid1 4 208 (.bool b188) ?_ ?_
        · refine bcase ((!x185)) (fun hb187 => ?_) (fun hb187 => ?_)
          · replace hj189 := cond_t hb187 hj189
            refine TO.sw rfl rfl rfl hb187 rfl rfl (StepS.ldB rfl (Ent.at 5 rfl) kscalB_119_true rfl) ?_
            obtain ⟨r190, hc191, hj189⟩ := bind_some hj189
            refine TO.qw rfl rfl rfl hb187 rfl rfl (StepQ.callC kcallB_54_true rfl rfl rfl (fun _ st => C54 (Ent.at 6 rfl) (OwnS.rd (Ent.at 1 rfl)) hc191 st)) ?_
            refine TO.sw rfl rfl rfl hb187 rfl rfl (StepS.cmp rfl rfl rfl) ?_
            cases hj189
            refine TO.s rfl rfl rfl (StepS.pickT rfl hb187 rfl) ?_
            exact TO.up1 4 0 rfl rfl rfl rfl
          · replace hj189 := cond_f hb187 hj189
            cases hj189
            refine TO.skip rfl rfl rfl (skipF hb187) rfl rfl ?_
            refine TO.skip rfl rfl rfl (skipF hb187) rfl rfl ?_
            refine TO.skip rfl rfl rfl (skipF hb187) rfl rfl ?_
            refine TO.s rfl rfl rfl (StepS.pickF rfl hb187 rfl) ?_
            exact TO.up1 4 0 rfl rfl rfl rfl
        refine TO.s rfl rfl rfl (StepS.fld rfl kfieldB_38_1_1_true) ?_
        refine TO.stB (us := [.bool b188]) 3 [v36, .bool b188, U x160, I x174] rfl rfl rfl ksizeB_4_1_true rfl rfl rfl (by simp [Value.oneCell']) rfl ?_
        refine TO.code ?_
        refine TC.k ?_
        refine TC.region ?_
        refine TO.s rfl rfl rfl (StepS.ldBA rfl (Ent.at 3 rfl) kaggB_38_4_true rfl rfl) ?_
        refine TO.pure (fun _ s => Rd.one (OwnS.rd (Ent.at 0 rfl)) s) fun oc192 => ?_
        refine TO.stB (us := [v36, .bool b188, U x160, I x174]) 8 [v36, .bool b188, U x160, I x174] rfl rfl rfl ksizeB_38_4_true rfl rfl rfl (by intro u hu; simp only [List.mem_cons, List.not_mem_nil, or_false] at hu; rcases hu with rfl | rfl | rfl | rfl <;> first | exact oc192.1 | rfl) rfl ?_
        refine TO.code ?_
        cases hm
        refine TC.ret fun a w e s => ?_
        refine FRet.cell1 (P := Try.prog) (fn := Try.f22) e s rfl rfl (Ent.at 8 rfl) kaggB_38_4_true rfl ?_
        refine ⟨_, _, rfl, ⟨(v36), rfl, rfl⟩, ?_⟩
        refine s.mono fun _ s => ?_
        replace s := Sat.front 0 rfl s
        replace s := Sat.erase 1 s
        replace s := Sat.erase 1 s
        replace s := Sat.erase 1 s
        replace s := Sat.erase 1 s
        replace s := Sat.erase 1 s
        replace s := Sat.erase 1 s
        replace s := Sat.erase 1 s
        replace s := Sat.erase 1 s
        replace s := Sat.erase 1 s
        exact s
      · rintro r rfl
        exact fun a w h => h.elim
    · rintro r rfl
      exact fun a w h => h.elim
  · rintro r rfl
    exact fun a w h => h.elim

set_option maxRecDepth 100000 in
theorem C4 {B : World} {L : List HP} {a0 : Int} {a1 : List (Int × Int × Int × Int)} {h1 : Value} {r0 : Bool} (e1 : Ent L (Rd 4 h1 (a1.map cTiiii))) (hm : F4 a0 a1 = some r0) {w : World} (st : St B L w) : Calls Try.prog 4 #[I a0, h1] w (fun e w' => (e = .returned (.bool r0) ∧ St B (L) w')) := by
  refine calls_of (N := 56) (L := L) (args := [I a0, h1]) Try.func4 rfl rfl rfl ?_ st
  dsimp only [F4] at hm
  refine TC.k ?_
  refine TC.region ?_
  refine TO.s rfl rfl rfl (StepS.assign rfl) ?_
  refine TO.code ?_
  refine TC.k ?_
  refine TC.region ?_
  refine TO.s rfl rfl rfl (StepS.move rfl) ?_
  refine TO.s rfl rfl rfl (StepS.move rfl) ?_
  obtain ⟨⟨r1, r2⟩, hc3, hm⟩ := bind_some hm
  refine TO.callO kcallB_20_true rfl rfl rfl (fun _ st => C20 e1 hc3 st) ?_
  rintro _ _ ⟨v4, rfl, rfl⟩
  refine TO.s rfl rfl rfl (StepS.move rfl) ?_
  refine TO.s rfl rfl rfl (StepS.extract rfl rfl) ?_
  refine TO.s rfl rfl rfl (StepS.extract rfl rfl) ?_
  refine TO.alloc kinfo_38_bind_zero_some_agg_slice_none_0_0_bool_false_U_0_I_0 rfl rfl fun b6 => ?_
  refine TO.pure (fun _ s => Rd.one (OwnS.rd (Ent.at 1 rfl)) s) fun oc7 => ?_
  refine TO.stB (us := [v4, .bool r1.2.1, U r1.2.2.1, I r1.2.2.2]) 0 [v4, .bool r1.2.1, U r1.2.2.1, I r1.2.2.2] rfl rfl rfl ksizeB_38_4_true rfl rfl rfl (by intro u hu; simp only [List.mem_cons, List.not_mem_nil, or_false] at hu; rcases hu with rfl | rfl | rfl | rfl <;> first | exact oc7.1 | rfl) rfl ?_
  refine TO.s rfl rfl rfl (StepS.assign rfl) ?_
  refine TO.code ?_
  refine TC.k ?_
  refine TC.region ?_
  refine TO.s rfl rfl rfl (StepS.move rfl) ?_
  refine TO.s rfl rfl rfl (StepS.move rfl) ?_
  refine TO.s rfl rfl rfl (StepS.lenm rfl e1.tl.tl ksliceB_23_106_4_true rfl) ?_
  obtain ⟨r8, hc9, hm⟩ := bind_some hm
  refine TO.q rfl rfl rfl (StepQ.call kcallB_21_true rfl rfl (fun _ st => C21  hc9 st)) ?_
  refine TO.s rfl rfl rfl (StepS.assign rfl) ?_
  refine TO.code ?_
  refine TC.k ?_
  refine TC.region ?_
  refine TO.s rfl rfl rfl (StepS.build (cs := [.slice none 0 0, .bool false, U 0, I 0]) rfl (by kernel_rfl)) ?_
  refine TO.alloc kinfo_38_bind_zero_some_agg_slice_none_0_0_bool_false_U_0_I_0 rfl rfl fun b10 => ?_
  refine TO.stB (us := [.slice none 0 0, .bool false, U 0, I 0]) 0 [.slice none 0 0, .bool false, U 0, I 0] rfl rfl rfl ksizeB_38_4_true rfl rfl rfl (by simp [Value.oneCell']) rfl ?_
  refine TO.code ?_
  refine TC.k ?_
  refine TC.k ?_
  refine TC.region ?_
  refine TO.s rfl rfl rfl (StepS.move rfl) ?_
  refine TO.s rfl rfl rfl (StepS.cmp rfl rfl rfl) ?_
  refine TO.code ?_
  obtain ⟨⟨y13, b14, x15, x16⟩, hj17, hm⟩ := bind_some hm
  first | refine TC.cutM (fun a w => ∃ v11 : Value, Mid 56 B [(5, .pointer (some ⟨b6, 0, none⟩)), (6, I r2), (7, I r8), (8, .pointer (some ⟨b10, 0, none⟩))] (OwnS 28 1 v11 (y13.map cI) :: Bx b10 38 [v11, .bool b14, U x15, I x16] :: Bx b6 38 [v4, .bool r1.2.1, U r1.2.2.1, I r1.2.2.2] :: OwnS 28 1 v4 (r1.1.map cI) :: L) a w) ?_ ?_ | refine TC.cutX (fun a w => ∃ v11 : Value, Mid 56 B [(5, .pointer (some ⟨b6, 0, none⟩)), (6, I r2), (7, I r8), (8, .pointer (some ⟨b10, 0, none⟩))] (OwnS 28 1 v11 (y13.map cI) :: Bx b10 38 [v11, .bool b14, U x15, I x16] :: Bx b6 38 [v4, .bool r1.2.1, U r1.2.2.1, I r1.2.2.2] :: OwnS 28 1 v4 (r1.1.map cI) :: L) a w) ?_ ?_
  · refine TC.cond rfl (fun hc18 => ?_) (fun hc18 => ?_)
    · replace hj17 := cond_t hc18 hj17
      refine TC.region ?_
      refine TO.s rfl rfl rfl (StepS.move rfl) ?_
      refine TO.s rfl rfl rfl (StepS.move rfl) ?_
      obtain ⟨r19, hc20, hj17⟩ := bind_some hj17
      refine TO.callO kcallB_22_true rfl rfl rfl (fun _ st => C22 e1.tl.tl.tl hc20 st) ?_
      rintro _ _ ⟨v21, rfl, rfl⟩
      refine TO.pure (fun _ s => Rd.one (OwnS.rd (Ent.at 0 rfl)) s) fun oc23 => ?_
      refine TO.stB (us := [v21, .bool r19.2.1, U r19.2.2.1, I r19.2.2.2]) 1 [v21, .bool r19.2.1, U r19.2.2.1, I r19.2.2.2] rfl rfl rfl ksizeB_38_4_true rfl rfl rfl (by intro u hu; simp only [List.mem_cons, List.not_mem_nil, or_false] at hu; rcases hu with rfl | rfl | rfl | rfl <;> first | exact oc23.1 | rfl) rfl ?_
      cases hj17
      refine TO.nil fun a w e s => ?_
      exact ⟨v21, e.sub (lk_of_allIn ⟨rfl, rfl, rfl, rfl, trivial⟩), s⟩
    · replace hj17 := cond_f hc18 hj17
      cases hj17
      refine TC.skip fun a w e s => ?_
      exact ⟨.slice none 0 0, e.sub (lk_of_allIn ⟨rfl, rfl, rfl, rfl, trivial⟩), s.mono fun _ s => (by replace s := Sat.nilS (e := 28) (sz := 1) (f := cI) s; exact Sat.by [3, 3, 3, 3] 4 0 (by kernel_rfl) s)⟩
  · intro a w ⟨v11, he, hs⟩
    refine TC.use ?_ he hs
    refine TC.k ?_
    refine TC.region ?_
    refine TO.s rfl rfl rfl (StepS.move rfl) ?_
    refine TO.s rfl rfl rfl (StepS.move rfl) ?_
    refine TO.s rfl rfl rfl (StepS.cmp rfl rfl rfl) ?_
    refine TO.s rfl rfl rfl (StepS.move rfl) ?_
    obtain ⟨b25, hj26, hm⟩ := bind_some hm
    refine TO.mid1 6 34 (.bool b25) ?_ ?_
    · refine bcase ((r2 == r8)) (fun hb24 => ?_) (fun hb24 => ?_)
      · replace hj26 := cond_t hb24 hj26
        refine TO.sw rfl rfl rfl hb24 rfl rfl (StepS.fld rfl kfieldB_38_0_0_true) ?_
        refine TO.sw rfl rfl rfl hb24 rfl rfl (StepS.ldB rfl (Ent.at 2 rfl) kscalB_24_true rfl) ?_
        refine TO.sw rfl rfl rfl hb24 rfl rfl (StepS.fld rfl kfieldB_38_0_0_true) ?_
        refine TO.sw rfl rfl rfl hb24 rfl rfl (StepS.ldB rfl (Ent.at 1 rfl) kscalB_24_true rfl) ?_
        obtain ⟨r27, hc28, hj26⟩ := bind_some hj26
        refine TO.qw rfl rfl rfl hb24 rfl rfl (StepQ.call kcallB_18_true rfl rfl (fun _ st => C18 (OwnS.rd (Ent.at 3 rfl)) (OwnS.rd (Ent.at 0 rfl)) hc28 st)) ?_
        cases hj26
        refine TO.s rfl rfl rfl (StepS.pickT rfl hb24 rfl) ?_
        exact TO.up1 6 0 rfl rfl rfl rfl
      · replace hj26 := cond_f hb24 hj26
        cases hj26
        refine TO.skip rfl rfl rfl (skipF hb24) rfl rfl ?_
        refine TO.skip rfl rfl rfl (skipF hb24) rfl rfl ?_
        refine TO.skip rfl rfl rfl (skipF hb24) rfl rfl ?_
        refine TO.skip rfl rfl rfl (skipF hb24) rfl rfl ?_
        refine TO.skip rfl rfl rfl (skipF hb24) rfl rfl ?_
        refine TO.s rfl rfl rfl (StepS.pickF rfl hb24 rfl) ?_
        exact TO.up1 6 0 rfl rfl rfl rfl
    refine TO.s rfl rfl rfl (StepS.move rfl) ?_
    refine TO.mid1 6 41 (.bool (b25 && (r1.2.1 == b14))) ?_ ?_
    · refine bcase (b25) (fun hb29 => ?_) (fun hb29 => ?_)
      · refine TO.sw rfl rfl rfl hb29 rfl rfl (StepS.fld rfl kfieldB_38_1_1_true) ?_
        refine TO.sw rfl rfl rfl hb29 rfl rfl (StepS.ldB rfl (Ent.at 2 rfl) kscalB_4_true rfl) ?_
        refine TO.sw rfl rfl rfl hb29 rfl rfl (StepS.fld rfl kfieldB_38_1_1_true) ?_
        refine TO.sw rfl rfl rfl hb29 rfl rfl (StepS.ldB rfl (Ent.at 1 rfl) kscalB_4_true rfl) ?_
        refine TO.sw rfl rfl rfl hb29 rfl rfl (StepS.eqB kunderlying_4_some_bool rfl rfl) ?_
        refine TO.s rfl rfl rfl (StepS.pickT rfl hb29 rfl) ?_
        exact TO.up1 6 0 rfl rfl (by rw [hb29]; rfl) rfl
      · refine TO.skip rfl rfl rfl (skipF hb29) rfl rfl ?_
        refine TO.skip rfl rfl rfl (skipF hb29) rfl rfl ?_
        refine TO.skip rfl rfl rfl (skipF hb29) rfl rfl ?_
        refine TO.skip rfl rfl rfl (skipF hb29) rfl rfl ?_
        refine TO.skip rfl rfl rfl (skipF hb29) rfl rfl ?_
        refine TO.s rfl rfl rfl (StepS.pickF rfl hb29 rfl) ?_
        exact TO.up1 6 0 rfl rfl (by rw [hb29]; rfl) rfl
    refine TO.s rfl rfl rfl (StepS.move rfl) ?_
    refine TO.mid1 6 48 (.bool ((b25 && (r1.2.1 == b14)) && (r1.2.2.1 == x15))) ?_ ?_
    · refine bcase ((b25 && (r1.2.1 == b14))) (fun hb30 => ?_) (fun hb30 => ?_)
      · refine TO.sw rfl rfl rfl hb30 rfl rfl (StepS.fld rfl kfieldB_38_2_2_true) ?_
        refine TO.sw rfl rfl rfl hb30 rfl rfl (StepS.ldB rfl (Ent.at 2 rfl) kscalB_36_true rfl) ?_
        refine TO.sw rfl rfl rfl hb30 rfl rfl (StepS.fld rfl kfieldB_38_2_2_true) ?_
        refine TO.sw rfl rfl rfl hb30 rfl rfl (StepS.ldB rfl (Ent.at 1 rfl) kscalB_36_true rfl) ?_
        refine TO.sw rfl rfl rfl hb30 rfl rfl (StepS.cmpU rfl rfl rfl) ?_
        refine TO.s rfl rfl rfl (StepS.pickT rfl hb30 rfl) ?_
        exact TO.up1 6 0 rfl rfl (by rw [hb30]; rfl) rfl
      · refine TO.skip rfl rfl rfl (skipF hb30) rfl rfl ?_
        refine TO.skip rfl rfl rfl (skipF hb30) rfl rfl ?_
        refine TO.skip rfl rfl rfl (skipF hb30) rfl rfl ?_
        refine TO.skip rfl rfl rfl (skipF hb30) rfl rfl ?_
        refine TO.skip rfl rfl rfl (skipF hb30) rfl rfl ?_
        refine TO.s rfl rfl rfl (StepS.pickF rfl hb30 rfl) ?_
        exact TO.up1 6 0 rfl rfl (by rw [hb30]; rfl) rfl
    refine TO.s rfl rfl rfl (StepS.move rfl) ?_
    refine TO.mid1 6 55 (.bool (((b25 && (r1.2.1 == b14)) && (r1.2.2.1 == x15)) && (r1.2.2.2 == x16))) ?_ ?_
    · refine bcase (((b25 && (r1.2.1 == b14)) && (r1.2.2.1 == x15))) (fun hb31 => ?_) (fun hb31 => ?_)
      · refine TO.sw rfl rfl rfl hb31 rfl rfl (StepS.fld rfl kfieldB_38_3_3_true) ?_
        refine TO.sw rfl rfl rfl hb31 rfl rfl (StepS.ldB rfl (Ent.at 2 rfl) kscalB_3_true rfl) ?_
        refine TO.sw rfl rfl rfl hb31 rfl rfl (StepS.fld rfl kfieldB_38_3_3_true) ?_
        refine TO.sw rfl rfl rfl hb31 rfl rfl (StepS.ldB rfl (Ent.at 1 rfl) kscalB_3_true rfl) ?_
        refine TO.sw rfl rfl rfl hb31 rfl rfl (StepS.cmp rfl rfl rfl) ?_
        refine TO.s rfl rfl rfl (StepS.pickT rfl hb31 rfl) ?_
        exact TO.up1 6 0 rfl rfl (by rw [hb31]; rfl) rfl
      · refine TO.skip rfl rfl rfl (skipF hb31) rfl rfl ?_
        refine TO.skip rfl rfl rfl (skipF hb31) rfl rfl ?_
        refine TO.skip rfl rfl rfl (skipF hb31) rfl rfl ?_
        refine TO.skip rfl rfl rfl (skipF hb31) rfl rfl ?_
        refine TO.skip rfl rfl rfl (skipF hb31) rfl rfl ?_
        refine TO.s rfl rfl rfl (StepS.pickF rfl hb31 rfl) ?_
        exact TO.up1 6 0 rfl rfl (by rw [hb31]; rfl) rfl
    refine TO.s rfl rfl rfl (StepS.assign rfl) ?_
    refine TO.code ?_
    cases hm
    refine TC.ret fun a w e s => ?_
    refine FRet.mk1 (P := Try.prog) (fn := Try.f4) (t := 4) e rfl rfl ?_
    exact ⟨rfl, s.mono fun _ => Sat.dropN 4⟩
end Go.Proofs.Ythfkdepcnhhepaa
