/-
  The walks: each Go function returns what its model says. Written by a program (gen.py).
-/
import Derived.Test.YthfkdepcnhhepaaProg
import Derived.KernelRfl
import Derived.Test.YthfkdepcnhhepaaCM
namespace Go.Proofs.Ythfkdepcnhhepaa
open Go Go.Bk
set_option linter.unusedVariables false
set_option linter.unnecessarySimpa false
theorem kscalB_3_true : scalB Try.prog 3 = true := by kernel_rfl
theorem kfieldB_197_1_1_true : fieldB Try.prog 197 1 1 = true := by kernel_rfl
theorem kscalB_115_true : scalB Try.prog 115 = true := by kernel_rfl
theorem ksliceB_115_4_1_true : sliceB Try.prog 115 4 1 = true := by kernel_rfl
theorem kscalB_4_true : scalB Try.prog 4 = true := by kernel_rfl
theorem ksizeB_4_1_true : sizeB Try.prog 4 1 = true := by kernel_rfl
theorem kfieldB_197_0_0_true : fieldB Try.prog 197 0 0 = true := by kernel_rfl
theorem kscalB_22_true : scalB Try.prog 22 = true := by kernel_rfl
theorem ksliceB_22_3_1_true : sliceB Try.prog 22 3 1 = true := by kernel_rfl
theorem kcallB_138_true : callB Try.prog 138 = true := by kernel_rfl
theorem ksizeB_3_1_true : sizeB Try.prog 3 1 = true := by kernel_rfl
theorem kfollows_mixedOrders_true : Try.prog.follows .mixedOrders = true := by kernel_rfl
theorem kfieldB_197_2_2_true : fieldB Try.prog 197 2 2 = true := by kernel_rfl
theorem kinfo_3_bind_zero_some_I_0 : (Try.prog.info? 3).bind (·.zero) = some (I 0) := by kernel_rfl
theorem kfieldB_106_0_0_true : fieldB Try.prog 106 0 0 = true := by kernel_rfl
theorem kfieldB_106_1_1_true : fieldB Try.prog 106 1 1 = true := by kernel_rfl
theorem kcallB_116_true : callB Try.prog 116 = true := by kernel_rfl
theorem kfieldB_106_2_2_true : fieldB Try.prog 106 2 2 = true := by kernel_rfl
theorem kcallB_117_true : callB Try.prog 117 = true := by kernel_rfl
theorem kcallB_118_true : callB Try.prog 118 = true := by kernel_rfl
theorem kfieldB_106_3_3_true : fieldB Try.prog 106 3 3 = true := by kernel_rfl
theorem kcallB_119_true : callB Try.prog 119 = true := by kernel_rfl
theorem kcallB_120_true : callB Try.prog 120 = true := by kernel_rfl
theorem kcallB_121_true : callB Try.prog 121 = true := by kernel_rfl
theorem kcallB_122_true : callB Try.prog 122 = true := by kernel_rfl
theorem kinfo_93_bind_zero_some_agg_slice_none_0_0_slice_none_0_0 : (Try.prog.info? 93).bind (·.zero) = some (.agg #[.slice none 0 0, .slice none 0 0]) := by kernel_rfl
theorem ksliceB_23_106_4_true : sliceB Try.prog 23 106 4 = true := by kernel_rfl
theorem ksizeB_93_2_true : sizeB Try.prog 93 2 = true := by kernel_rfl
theorem kaggB_93_2_true : aggB Try.prog 93 2 = true := by kernel_rfl
theorem kelemB_22_3_1_8_true : elemB Try.prog 22 3 1 8 = true := by kernel_rfl
theorem kelemB_115_4_1_1_true : elemB Try.prog 115 4 1 1 = true := by kernel_rfl
theorem kinfo_4_bind_zero_some_bool_false : (Try.prog.info? 4).bind (·.zero) = some (.bool false) := by kernel_rfl
theorem kaggB_106_4_true : aggB Try.prog 106 4 = true := by kernel_rfl
theorem kinfo_106_bind_zero_some_agg_I_0_I_0_I_0_I_0 : (Try.prog.info? 106).bind (·.zero) = some (.agg #[I 0, I 0, I 0, I 0]) := by kernel_rfl
theorem ksizeB_106_4_true : sizeB Try.prog 106 4 = true := by kernel_rfl
theorem kcallB_78_true : callB Try.prog 78 = true := by kernel_rfl
theorem kelemB_24_28_1_8_true : elemB Try.prog 24 28 1 8 = true := by kernel_rfl
theorem kinfo_28_bind_zero_some_I_0 : (Try.prog.info? 28).bind (·.zero) = some (I 0) := by kernel_rfl
theorem kfieldB_93_1_1_true : fieldB Try.prog 93 1 1 = true := by kernel_rfl
theorem kcallB_80_true : callB Try.prog 80 = true := by kernel_rfl
theorem kcallB_79_true : callB Try.prog 79 = true := by kernel_rfl
theorem kfieldB_93_0_0_true : fieldB Try.prog 93 0 0 = true := by kernel_rfl
theorem kscalB_24_true : scalB Try.prog 24 = true := by kernel_rfl
theorem ksizeB_24_1_true : sizeB Try.prog 24 1 = true := by kernel_rfl
theorem ksliceB_24_28_1_true : sliceB Try.prog 24 28 1 = true := by kernel_rfl
theorem kscalB_28_true : scalB Try.prog 28 = true := by kernel_rfl
theorem kcallB_44_true : callB Try.prog 44 = true := by kernel_rfl
theorem kcallB_21_true : callB Try.prog 21 = true := by kernel_rfl
theorem kcallB_45_true : callB Try.prog 45 = true := by kernel_rfl
theorem kcallB_18_true : callB Try.prog 18 = true := by kernel_rfl
theorem kcallB_25_true : callB Try.prog 25 = true := by kernel_rfl

set_option maxRecDepth 100000 in
theorem C116 {B : World} {L : List HP} {a0 : Int} {a1 : Int} {b1_ : Nat} {r0 : Bool} (g1 : Ent L (Bx b1_ 3 [I a1])) (hm : F116 a0 a1 = some r0) {w : World} (st : St B L w) : Calls Try.prog 116 #[I a0, .pointer (some ⟨b1_, 0, none⟩)] w (fun e w' => (e = .returned (.bool r0) ∧ St B (L) w')) := by
  refine calls_of (N := 11) (L := L) (args := [I a0, .pointer (some ⟨b1_, 0, none⟩)]) Try.func116 rfl rfl rfl ?_ st
  dsimp only [F116] at hm
  refine TC.k ?_
  refine TC.region ?_
  refine TO.s rfl rfl rfl (StepS.assign rfl) ?_
  refine TO.code ?_
  refine TC.k ?_
  refine TC.region ?_
  refine TO.s rfl rfl rfl (StepS.move rfl) ?_
  refine TO.s rfl rfl rfl (StepS.cmp rfl rfl rfl) ?_
  refine TO.s rfl rfl rfl (StepS.move rfl) ?_
  refine TO.mid1 4 10 (.bool ((decide (a0 ≥ 0)) && (decide (a0 < a1)))) ?_ ?_
  · refine bcase ((decide (a0 ≥ 0))) (fun hb1 => ?_) (fun hb1 => ?_)
    · refine TO.sw rfl rfl rfl hb1 rfl rfl (StepS.move rfl) ?_
      refine TO.sw rfl rfl rfl hb1 rfl rfl (StepS.ldB rfl g1 kscalB_3_true rfl) ?_
      refine TO.sw rfl rfl rfl hb1 rfl rfl (StepS.cmp rfl rfl rfl) ?_
      refine TO.s rfl rfl rfl (StepS.pickT rfl hb1 rfl) ?_
      exact TO.up1 4 0 rfl rfl (by rw [hb1]; rfl) rfl
    · refine TO.skip rfl rfl rfl (skipF hb1) rfl rfl ?_
      refine TO.skip rfl rfl rfl (skipF hb1) rfl rfl ?_
      refine TO.skip rfl rfl rfl (skipF hb1) rfl rfl ?_
      refine TO.s rfl rfl rfl (StepS.pickF rfl hb1 rfl) ?_
      exact TO.up1 4 0 rfl rfl (by rw [hb1]; rfl) rfl
  refine TO.s rfl rfl rfl (StepS.assign rfl) ?_
  refine TO.code ?_
  cases hm
  refine TC.ret fun a w e s => ?_
  refine FRet.mk1 (P := Try.prog) (fn := Try.f116) (t := 3) e rfl rfl ?_
  exact ⟨rfl, s.mono fun _ => Sat.dropN 0⟩

set_option maxRecDepth 100000 in
theorem C117 {B : World} {L : List HP} {a0 : Int} {a1 : Int} {b1_ : Nat} {r0 : Bool} (g1 : Ent L (Bx b1_ 3 [I a1])) (hm : F117 a0 a1 = some r0) {w : World} (st : St B L w) : Calls Try.prog 117 #[I a0, .pointer (some ⟨b1_, 0, none⟩)] w (fun e w' => (e = .returned (.bool r0) ∧ St B (L) w')) := by
  refine calls_of (N := 11) (L := L) (args := [I a0, .pointer (some ⟨b1_, 0, none⟩)]) Try.func117 rfl rfl rfl ?_ st
  dsimp only [F117] at hm
  refine TC.k ?_
  refine TC.region ?_
  refine TO.s rfl rfl rfl (StepS.assign rfl) ?_
  refine TO.code ?_
  refine TC.k ?_
  refine TC.region ?_
  refine TO.s rfl rfl rfl (StepS.move rfl) ?_
  refine TO.s rfl rfl rfl (StepS.cmp rfl rfl rfl) ?_
  refine TO.s rfl rfl rfl (StepS.move rfl) ?_
  refine TO.mid1 4 10 (.bool ((decide (a0 > 0)) && (decide (a0 < a1)))) ?_ ?_
  · refine bcase ((decide (a0 > 0))) (fun hb1 => ?_) (fun hb1 => ?_)
    · refine TO.sw rfl rfl rfl hb1 rfl rfl (StepS.move rfl) ?_
      refine TO.sw rfl rfl rfl hb1 rfl rfl (StepS.ldB rfl g1 kscalB_3_true rfl) ?_
      refine TO.sw rfl rfl rfl hb1 rfl rfl (StepS.cmp rfl rfl rfl) ?_
      refine TO.s rfl rfl rfl (StepS.pickT rfl hb1 rfl) ?_
      exact TO.up1 4 0 rfl rfl (by rw [hb1]; rfl) rfl
    · refine TO.skip rfl rfl rfl (skipF hb1) rfl rfl ?_
      refine TO.skip rfl rfl rfl (skipF hb1) rfl rfl ?_
      refine TO.skip rfl rfl rfl (skipF hb1) rfl rfl ?_
      refine TO.s rfl rfl rfl (StepS.pickF rfl hb1 rfl) ?_
      exact TO.up1 4 0 rfl rfl (by rw [hb1]; rfl) rfl
  refine TO.s rfl rfl rfl (StepS.assign rfl) ?_
  refine TO.code ?_
  cases hm
  refine TC.ret fun a w e s => ?_
  refine FRet.mk1 (P := Try.prog) (fn := Try.f117) (t := 3) e rfl rfl ?_
  exact ⟨rfl, s.mono fun _ => Sat.dropN 0⟩

set_option maxRecDepth 100000 in
theorem C138 {B : World} {L : List HP} {a0 : Int} {r0 : Bool} (hm : F138 a0 = some r0) {w : World} (st : St B L w) : Calls Try.prog 138 #[I a0] w (fun e w' => (e = .returned (.bool r0) ∧ St B (L) w')) := by
  refine calls_of (N := 9) (L := L) (args := [I a0]) Try.func138 rfl rfl rfl ?_ st
  dsimp only [F138] at hm
  refine TC.k ?_
  refine TC.region ?_
  refine TO.s rfl rfl rfl (StepS.assign rfl) ?_
  refine TO.code ?_
  refine TC.k ?_
  refine TC.region ?_
  refine TO.s rfl rfl rfl (StepS.move rfl) ?_
  refine TO.s rfl rfl rfl (StepS.cmp rfl rfl rfl) ?_
  refine TO.s rfl rfl rfl (StepS.move rfl) ?_
  refine TO.mid1 3 8 (.bool ((a0 == 2) || (a0 == 3))) ?_ ?_
  · refine bcase ((a0 == 2)) (fun hb1 => ?_) (fun hb1 => ?_)
    · refine TO.skip rfl rfl rfl (skipT hb1) rfl rfl ?_
      refine TO.skip rfl rfl rfl (skipT hb1) rfl rfl ?_
      refine TO.s rfl rfl rfl (StepS.pickT rfl hb1 rfl) ?_
      exact TO.up1 3 0 rfl rfl (by rw [hb1]; rfl) rfl
    · refine TO.sw rfl rfl rfl hb1 rfl rfl (StepS.move rfl) ?_
      refine TO.sw rfl rfl rfl hb1 rfl rfl (StepS.cmp rfl rfl rfl) ?_
      refine TO.s rfl rfl rfl (StepS.pickF rfl hb1 rfl) ?_
      exact TO.up1 3 0 rfl rfl (by rw [hb1]; rfl) rfl
  refine TO.s rfl rfl rfl (StepS.assign rfl) ?_
  refine TO.code ?_
  cases hm
  refine TC.ret fun a w e s => ?_
  refine FRet.mk1 (P := Try.prog) (fn := Try.f138) (t := 2) e rfl rfl ?_
  exact ⟨rfl, s.mono fun _ => Sat.dropN 0⟩

set_option maxRecDepth 100000 in
theorem C118 {B : World} {L : List HP} {a0 : (List Int) × (List Bool) × List Bool} {a1 : Int} {b0_ : Nat} {h0_1 : Value} {h0_2 : Value} {h0_3 : Value} {r0 : Int} {s0 : (List Int) × (List Bool) × List Bool} (hm : F118 a0 a1 = some (r0, s0)) {w : World} (st : St B (Bx b0_ 197 [h0_1, h0_2, h0_3] :: OwnS 3 1 h0_1 (a0.1.map cI) :: OwnS 4 1 h0_2 (a0.2.1.map cB) :: OwnS 4 1 h0_3 (a0.2.2.map cB) :: L) w) : Calls Try.prog 118 #[.pointer (some ⟨b0_, 0, none⟩), I a1] w (fun e w' => ∃ v M, e = .returned v ∧ (∃ (qv1 : Value) (qv2 : Value) (qv3 : Value), v = I r0 ∧ M = (Bx b0_ 197 [qv1, qv2, qv3] :: OwnS 3 1 qv1 (s0.1.map cI) :: OwnS 4 1 qv2 (s0.2.1.map cB) :: OwnS 4 1 qv3 (s0.2.2.map cB) :: L)) ∧ St B M w') := by
  refine calls_of (N := 36) (L := (Bx b0_ 197 [h0_1, h0_2, h0_3] :: OwnS 3 1 h0_1 (a0.1.map cI) :: OwnS 4 1 h0_2 (a0.2.1.map cB) :: OwnS 4 1 h0_3 (a0.2.2.map cB) :: L)) (args := [.pointer (some ⟨b0_, 0, none⟩), I a1]) Try.func118 rfl rfl rfl ?_ st
  dsimp only [F118] at hm
  refine TC.k ?_
  refine TC.region ?_
  refine TO.s rfl rfl rfl (StepS.assign rfl) ?_
  refine TO.code ?_
  refine TC.k ?_
  refine TC.k ?_
  refine TC.region ?_
  refine TO.s rfl rfl rfl (StepS.move rfl) ?_
  refine TO.s rfl rfl rfl (StepS.nilc rfl) ?_
  refine TO.s rfl rfl rfl (StepS.fld rfl kfieldB_197_1_1_true) ?_
  refine TO.s rfl rfl rfl (StepS.ldB rfl (Ent.at 0 rfl) kscalB_115_true rfl) ?_
  refine TO.s rfl rfl rfl (StepS.move rfl) ?_
  obtain ⟨x7, hx8, hm⟩ := bind_some hm
  refine TO.s rfl rfl rfl (StepS.idx rfl rfl (OwnS.rd (Ent.at 2 rfl)) ksliceB_115_4_1_true (idx_spec hx8).1 (idxm_lt hx8)) ?_
  refine TO.s rfl rfl rfl (StepS.ld0 rfl (OwnS.rd (Ent.at 2 rfl)) kscalB_4_true rfl (idxm hx8) rfl) ?_
  refine TO.s rfl rfl rfl (StepS.not rfl) ?_
  refine TO.code ?_
  refine TC.cond rfl (fun hc9 => ?_) (fun hc9 => ?_)
  · replace hm := cond_t hc9 hm
    refine TC.k ?_
    refine TC.region ?_
    refine TO.s rfl rfl rfl (StepS.assign rfl) ?_
    refine TO.code ?_
    cases hm
    refine TC.ret fun a w e s => ?_
    refine FRet.mk1 (P := Try.prog) (fn := Try.f118) (t := 4) e rfl rfl ?_
    refine ⟨_, _, rfl, ⟨(h0_1), (h0_2), (h0_3), rfl, rfl⟩, ?_⟩
    refine s.mono fun _ s => ?_
    replace s := Sat.front 3 rfl s
    replace s := Sat.front 3 rfl s
    replace s := Sat.front 3 rfl s
    replace s := Sat.front 3 rfl s
    exact s
  · replace hm := cond_f hc9 hm
    refine TC.skipk ?_
    refine TC.k ?_
    refine TC.region ?_
    refine TO.s rfl rfl rfl (StepS.move rfl) ?_
    refine TO.s rfl rfl rfl (StepS.nilc rfl) ?_
    refine TO.s rfl rfl rfl (StepS.fld rfl kfieldB_197_1_1_true) ?_
    refine TO.s rfl rfl rfl (StepS.ldB rfl (Ent.at 0 rfl) kscalB_115_true rfl) ?_
    refine TO.s rfl rfl rfl (StepS.move rfl) ?_
    obtain ⟨x10, hx11, hm⟩ := bind_some hm
    refine TO.s rfl rfl rfl (StepS.idx rfl rfl (OwnS.rd (Ent.at 2 rfl)) ksliceB_115_4_1_true (idx_spec hx11).1 (idxm_lt hx11)) ?_
    refine TO.stO (i := a1.toNat) (off := 0) (us := [.bool false]) 2 false rfl rfl rfl ksizeB_4_1_true rfl rfl rfl (idx_spec hx11).2 rfl (by simp [Value.oneCell']) rfl ?_
    refine TO.code ?_
    refine TC.k ?_
    refine TC.k ?_
    refine TC.region ?_
    refine TO.s rfl rfl rfl (StepS.move rfl) ?_
    refine TO.s rfl rfl rfl (StepS.cmp rfl rfl rfl) ?_
    refine TO.s rfl rfl rfl (StepS.move rfl) ?_
    obtain ⟨b13, hj14, hm⟩ := bind_some hm
    refine TO.mid1 9 30 (.bool b13) ?_ ?_
    · refine bcase ((a1 == 0)) (fun hb12 => ?_) (fun hb12 => ?_)
      · replace hj14 := cond_t hb12 hj14
        refine TO.sw rfl rfl rfl hb12 rfl rfl (StepS.move rfl) ?_
        refine TO.sw rfl rfl rfl hb12 rfl rfl (StepS.nilc rfl) ?_
        refine TO.sw rfl rfl rfl hb12 rfl rfl (StepS.fld rfl kfieldB_197_0_0_true) ?_
        refine TO.sw rfl rfl rfl hb12 rfl rfl (StepS.ldB rfl (Ent.at 0 rfl) kscalB_22_true rfl) ?_
        obtain ⟨x15, hx16, hj14⟩ := bind_some hj14
        refine TO.sw rfl rfl rfl hb12 rfl rfl (StepS.idx rfl rfl (OwnS.rd (Ent.at 1 rfl)) ksliceB_22_3_1_true (idx_spec hx16).1 (idxm_lt hx16)) ?_
        refine TO.sw rfl rfl rfl hb12 rfl rfl (StepS.ld0 rfl (OwnS.rd (Ent.at 1 rfl)) kscalB_3_true rfl (idxm hx16) rfl) ?_
        obtain ⟨r17, hc18, hj14⟩ := bind_some hj14
        refine TO.qw rfl rfl rfl hb12 rfl rfl (StepQ.call kcallB_138_true rfl rfl (fun _ st => C138  hc18 st)) ?_
        refine TO.sw rfl rfl rfl hb12 rfl rfl (StepS.not rfl) ?_
        cases hj14
        refine TO.s rfl rfl rfl (StepS.pickT rfl hb12 rfl) ?_
        exact TO.up1 9 0 rfl rfl rfl rfl
      · replace hj14 := cond_f hb12 hj14
        cases hj14
        refine TO.skip rfl rfl rfl (skipF hb12) rfl rfl ?_
        refine TO.skip rfl rfl rfl (skipF hb12) rfl rfl ?_
        refine TO.skip rfl rfl rfl (skipF hb12) rfl rfl ?_
        refine TO.skip rfl rfl rfl (skipF hb12) rfl rfl ?_
        refine TO.skip rfl rfl rfl (skipF hb12) rfl rfl ?_
        refine TO.skip rfl rfl rfl (skipF hb12) rfl rfl ?_
        refine TO.skip rfl rfl rfl (skipF hb12) rfl rfl ?_
        refine TO.skip rfl rfl rfl (skipF hb12) rfl rfl ?_
        refine TO.s rfl rfl rfl (StepS.pickF rfl hb12 rfl) ?_
        exact TO.up1 9 0 rfl rfl rfl rfl
    refine TO.code ?_
    obtain ⟨y19, hj21, hm⟩ := bind_some hm
    first | refine TC.cutM (fun a w => ∃ v20 : Value, Mid 36 B [] (Bx b0_ 197 [v20, h0_2, h0_3] :: OwnS 3 1 v20 (y19.map cI) :: OwnS 4 1 h0_2 ((a0.2.1.set a1.toNat false).map cB) :: OwnS 4 1 h0_3 (a0.2.2.map cB) :: L) a w) ?_ ?_ | refine TC.cutX (fun a w => ∃ v20 : Value, Mid 36 B [] (Bx b0_ 197 [v20, h0_2, h0_3] :: OwnS 3 1 v20 (y19.map cI) :: OwnS 4 1 h0_2 ((a0.2.1.set a1.toNat false).map cB) :: OwnS 4 1 h0_3 (a0.2.2.map cB) :: L) a w) ?_ ?_
    · refine TC.cond rfl (fun hc22 => ?_) (fun hc22 => ?_)
      · replace hj21 := cond_t hc22 hj21
        refine TC.region ?_
        refine TO.s rfl rfl rfl (StepS.move rfl) ?_
        refine TO.s rfl rfl rfl (StepS.nilc rfl) ?_
        refine TO.s rfl rfl rfl (StepS.fld rfl kfieldB_197_0_0_true) ?_
        refine TO.s rfl rfl rfl (StepS.ldB rfl (Ent.at 0 rfl) kscalB_22_true rfl) ?_
        obtain ⟨x23, hx24, hj21⟩ := bind_some hj21
        refine TO.s rfl rfl rfl (StepS.idx rfl rfl (OwnS.rd (Ent.at 1 rfl)) ksliceB_22_3_1_true (idx_spec hx24).1 (idxm_lt hx24)) ?_
        refine TO.stO (i := (0 : Int).toNat) (off := 0) (us := [I 3]) 1 3 rfl rfl rfl ksizeB_3_1_true rfl rfl rfl (idx_spec hx24).2 rfl (by simp [Value.oneCell']) rfl ?_
        cases hj21
        refine TO.nil fun a w e s => ?_
        exact ⟨h0_1, e.sub (lk_of_allIn trivial), s⟩
      · replace hj21 := cond_f hc22 hj21
        cases hj21
        refine TC.skip fun a w e s => ?_
        exact ⟨h0_1, e.sub (lk_of_allIn trivial), s⟩
    · intro a w ⟨v20, he, hs⟩
      refine TC.use ?_ he hs
      refine TC.k ?_
      refine TC.region ?_
      refine TO.s rfl rfl rfl (StepS.assign rfl) ?_
      refine TO.code ?_
      cases hm
      refine TC.ret fun a w e s => ?_
      refine FRet.mk1 (P := Try.prog) (fn := Try.f118) (t := 4) e rfl rfl ?_
      refine ⟨_, _, rfl, ⟨(v20), (h0_2), (h0_3), rfl, rfl⟩, ?_⟩
      refine s.mono fun _ s => ?_
      replace s := Sat.front 3 rfl s
      replace s := Sat.front 3 rfl s
      replace s := Sat.front 3 rfl s
      replace s := Sat.front 3 rfl s
      exact s

set_option maxRecDepth 100000 in
theorem C119 {B : World} {L : List HP} {a0 : (List Int) × (List Bool) × List Bool} {a1 : Int} {a2 : Int} {b0_ : Nat} {h0_1 : Value} {h0_2 : Value} {h0_3 : Value} {r0 : Int} {s0 : (List Int) × (List Bool) × List Bool} (hm : F119 a0 a1 a2 = some (r0, s0)) {w : World} (st : St B (Bx b0_ 197 [h0_1, h0_2, h0_3] :: OwnS 3 1 h0_1 (a0.1.map cI) :: OwnS 4 1 h0_2 (a0.2.1.map cB) :: OwnS 4 1 h0_3 (a0.2.2.map cB) :: L) w) : Calls Try.prog 119 #[.pointer (some ⟨b0_, 0, none⟩), I a1, I a2] w (fun e w' => ∃ v M, e = .returned v ∧ (∃ (qv1 : Value) (qv2 : Value) (qv3 : Value), v = I r0 ∧ M = (Bx b0_ 197 [qv1, qv2, qv3] :: OwnS 3 1 qv1 (s0.1.map cI) :: OwnS 4 1 qv2 (s0.2.1.map cB) :: OwnS 4 1 qv3 (s0.2.2.map cB) :: L)) ∧ St B M w') := by
  refine calls_of (N := 42) (L := (Bx b0_ 197 [h0_1, h0_2, h0_3] :: OwnS 3 1 h0_1 (a0.1.map cI) :: OwnS 4 1 h0_2 (a0.2.1.map cB) :: OwnS 4 1 h0_3 (a0.2.2.map cB) :: L)) (args := [.pointer (some ⟨b0_, 0, none⟩), I a1, I a2]) Try.func119 rfl rfl rfl ?_ st
  dsimp only [F119] at hm
  refine TC.k ?_
  refine TC.region ?_
  refine TO.s rfl rfl rfl (StepS.assign rfl) ?_
  refine TO.code ?_
  refine TC.k ?_
  refine TC.k ?_
  refine TC.region ?_
  refine TO.s rfl rfl rfl (StepS.move rfl) ?_
  refine TO.s rfl rfl rfl (StepS.nilc rfl) ?_
  refine TO.s rfl rfl rfl (StepS.fld rfl kfieldB_197_0_0_true) ?_
  refine TO.s rfl rfl rfl (StepS.ldB rfl (Ent.at 0 rfl) kscalB_22_true rfl) ?_
  refine TO.s rfl rfl rfl (StepS.move rfl) ?_
  obtain ⟨x7, hx8, hm⟩ := bind_some hm
  refine TO.s rfl rfl rfl (StepS.idx rfl rfl (OwnS.rd (Ent.at 1 rfl)) ksliceB_22_3_1_true (idx_spec hx8).1 (idxm_lt hx8)) ?_
  refine TO.s rfl rfl rfl (StepS.ld0 rfl (OwnS.rd (Ent.at 1 rfl)) kscalB_3_true rfl (idxm hx8) rfl) ?_
  refine TO.s rfl rfl rfl (StepS.cmp rfl rfl rfl) ?_
  refine TO.code ?_
  refine TC.cond rfl (fun hc9 => ?_) (fun hc9 => ?_)
  · replace hm := cond_t hc9 hm
    refine TC.k ?_
    refine TC.region ?_
    refine TO.s rfl rfl rfl (StepS.assign rfl) ?_
    refine TO.code ?_
    cases hm
    refine TC.ret fun a w e s => ?_
    refine FRet.mk1 (P := Try.prog) (fn := Try.f119) (t := 6) e rfl rfl ?_
    refine ⟨_, _, rfl, ⟨(h0_1), (h0_2), (h0_3), rfl, rfl⟩, ?_⟩
    refine s.mono fun _ s => ?_
    replace s := Sat.front 3 rfl s
    replace s := Sat.front 3 rfl s
    replace s := Sat.front 3 rfl s
    replace s := Sat.front 3 rfl s
    exact s
  · replace hm := cond_f hc9 hm
    refine TC.skipk ?_
    refine TC.k ?_
    refine TC.region ?_
    refine TO.s rfl rfl rfl (StepS.move rfl) ?_
    refine TO.s rfl rfl rfl (StepS.nilc rfl) ?_
    refine TO.s rfl rfl rfl (StepS.fld rfl kfieldB_197_0_0_true) ?_
    refine TO.s rfl rfl rfl (StepS.ldB rfl (Ent.at 0 rfl) kscalB_22_true rfl) ?_
    refine TO.s rfl rfl rfl (StepS.move rfl) ?_
    obtain ⟨x10, hx11, hm⟩ := bind_some hm
    refine TO.s rfl rfl rfl (StepS.idx rfl rfl (OwnS.rd (Ent.at 1 rfl)) ksliceB_22_3_1_true (idx_spec hx11).1 (idxm_lt hx11)) ?_
    refine TO.stO (i := a1.toNat) (off := 0) (us := [I 3]) 1 3 rfl rfl rfl ksizeB_3_1_true rfl rfl rfl (idx_spec hx11).2 rfl (by simp [Value.oneCell']) rfl ?_
    refine TO.code ?_
    refine TC.k ?_
    refine TC.k ?_
    refine TC.region ?_
    refine TO.s rfl rfl rfl (StepS.move rfl) ?_
    refine TO.s rfl rfl rfl (StepS.cmp rfl rfl rfl) ?_
    refine TO.code ?_
    obtain ⟨⟨y12, y14⟩, hj16, hm⟩ := bind_some hm
    first | refine TC.cutM (fun a w => ∃ v13 : Value, ∃ v15 : Value, Mid 42 B [] (Bx b0_ 197 [v13, h0_2, v15] :: OwnS 3 1 v13 (y12.map cI) :: OwnS 4 1 h0_2 (a0.2.1.map cB) :: OwnS 4 1 v15 (y14.map cB) :: L) a w) ?_ ?_ | refine TC.cutX (fun a w => ∃ v13 : Value, ∃ v15 : Value, Mid 42 B [] (Bx b0_ 197 [v13, h0_2, v15] :: OwnS 3 1 v13 (y12.map cI) :: OwnS 4 1 h0_2 (a0.2.1.map cB) :: OwnS 4 1 v15 (y14.map cB) :: L) a w) ?_ ?_
    · refine TC.cond rfl (fun hc17 => ?_) (fun hc17 => ?_)
      · replace hj16 := cond_t hc17 hj16
        refine TC.k ?_
        refine TC.region ?_
        refine TO.s rfl rfl rfl (StepS.move rfl) ?_
        refine TO.s rfl rfl rfl (StepS.nilc rfl) ?_
        refine TO.s rfl rfl rfl (StepS.fld rfl kfieldB_197_0_0_true) ?_
        refine TO.s rfl rfl rfl (StepS.ldB rfl (Ent.at 0 rfl) kscalB_22_true rfl) ?_
        refine TO.s rfl rfl rfl (StepS.move rfl) ?_
        obtain ⟨x18, hx19, hj16⟩ := bind_some hj16
        refine TO.s rfl rfl rfl (StepS.idx rfl rfl (OwnS.rd (Ent.at 1 rfl)) ksliceB_22_3_1_true (idx_spec hx19).1 (idxm_lt hx19)) ?_
        refine TO.stO (i := a1.toNat) (off := 0) (us := [I 1]) 1 1 rfl rfl rfl ksizeB_3_1_true rfl rfl rfl (idx_spec hx19).2 rfl (by simp [Value.oneCell']) rfl ?_
        refine TO.code ?_
        refine TC.region_tail 13 kfollows_mixedOrders_true (by kernel_rfl) ?_
        refine TS.s rfl rfl rfl (StepS.move rfl) ?_
        refine TS.s rfl rfl rfl (StepS.nilc rfl) ?_
        refine TS.s rfl rfl rfl (StepS.fld rfl kfieldB_197_2_2_true) ?_
        refine TS.s rfl rfl rfl (StepS.ldB rfl (Ent.at 0 rfl) kscalB_115_true rfl) ?_
        refine TS.s rfl rfl rfl (StepS.move rfl) ?_
        refine TS.s rfl rfl rfl (StepS.move rfl) ?_
        refine TS.s rfl rfl rfl (StepS.nilc rfl) ?_
        refine TS.s rfl rfl rfl (StepS.fld rfl kfieldB_197_1_1_true) ?_
        refine TS.s rfl rfl rfl (StepS.ldB rfl (Ent.at 0 rfl) kscalB_115_true rfl) ?_
        obtain ⟨x20, hx21, hj16⟩ := bind_some hj16
        refine TS.s rfl rfl rfl (StepS.idx rfl rfl (OwnS.rd (Ent.at 2 rfl)) ksliceB_115_4_1_true (idx_spec hx21).1 (idxm_lt hx21)) ?_
        refine TS.s rfl rfl rfl (StepS.ld0 rfl (OwnS.rd (Ent.at 2 rfl)) kscalB_4_true rfl (idxm hx21) rfl) ?_
        refine TS.s rfl rfl rfl (StepS.not rfl) ?_
        obtain ⟨x22, hx23, hj16⟩ := bind_some hj16
        refine TS.s rfl rfl rfl (StepS.idx rfl rfl (OwnS.rd (Ent.at 3 rfl)) ksliceB_115_4_1_true (idx_spec hx23).1 (idxm_lt hx23)) ?_
        refine TS.nil ?_
        refine TO.at ?_
        refine TO.stO (i := a1.toNat) (off := 0) (us := [.bool (!x20)]) 3 (!x20) rfl rfl rfl ksizeB_4_1_true rfl rfl rfl (idx_spec hx23).2 rfl (by simp [Value.oneCell']) rfl ?_
        cases hj16
        refine TO.nil fun a w e s => ?_
        exact ⟨h0_1, h0_3, e.sub (lk_of_allIn trivial), s⟩
      · replace hj16 := cond_f hc17 hj16
        cases hj16
        refine TC.skip fun a w e s => ?_
        exact ⟨h0_1, h0_3, e.sub (lk_of_allIn trivial), s⟩
    · intro a w ⟨v13, v15, he, hs⟩
      refine TC.use ?_ he hs
      refine TC.k ?_
      refine TC.region ?_
      refine TO.s rfl rfl rfl (StepS.assign rfl) ?_
      refine TO.code ?_
      cases hm
      refine TC.ret fun a w e s => ?_
      refine FRet.mk1 (P := Try.prog) (fn := Try.f119) (t := 6) e rfl rfl ?_
      refine ⟨_, _, rfl, ⟨(v13), (h0_2), (v15), rfl, rfl⟩, ?_⟩
      refine s.mono fun _ s => ?_
      replace s := Sat.front 3 rfl s
      replace s := Sat.front 3 rfl s
      replace s := Sat.front 3 rfl s
      replace s := Sat.front 3 rfl s
      exact s

set_option maxRecDepth 100000 in
theorem C120 {B : World} {L : List HP} {a0 : (List Int) × (List Bool) × List Bool} {b0_ : Nat} {h0_1 : Value} {h0_2 : Value} {h0_3 : Value} {r0 : Int} {s0 : (List Int) × (List Bool) × List Bool} (hm : F120 a0 = some (r0, s0)) {w : World} (st : St B (Bx b0_ 197 [h0_1, h0_2, h0_3] :: OwnS 3 1 h0_1 (a0.1.map cI) :: OwnS 4 1 h0_2 (a0.2.1.map cB) :: OwnS 4 1 h0_3 (a0.2.2.map cB) :: L) w) : Calls Try.prog 120 #[.pointer (some ⟨b0_, 0, none⟩)] w (fun e w' => ∃ v M, e = .returned v ∧ (∃ (qv1 : Value) (qv2 : Value) (qv3 : Value), v = I r0 ∧ M = (Bx b0_ 197 [qv1, qv2, qv3] :: OwnS 3 1 qv1 (s0.1.map cI) :: OwnS 4 1 qv2 (s0.2.1.map cB) :: OwnS 4 1 qv3 (s0.2.2.map cB) :: L)) ∧ St B M w') := by
  refine calls_of (N := 35) (L := (Bx b0_ 197 [h0_1, h0_2, h0_3] :: OwnS 3 1 h0_1 (a0.1.map cI) :: OwnS 4 1 h0_2 (a0.2.1.map cB) :: OwnS 4 1 h0_3 (a0.2.2.map cB) :: L)) (args := [.pointer (some ⟨b0_, 0, none⟩)]) Try.func120 rfl rfl rfl ?_ st
  dsimp only [F120] at hm
  refine TC.k ?_
  refine TC.region ?_
  refine TO.s rfl rfl rfl (StepS.assign rfl) ?_
  refine TO.code ?_
  refine TC.k ?_
  refine TC.k ?_
  refine TC.region ?_
  refine TO.s rfl rfl rfl (StepS.move rfl) ?_
  refine TO.s rfl rfl rfl (StepS.nilc rfl) ?_
  refine TO.s rfl rfl rfl (StepS.fld rfl kfieldB_197_0_0_true) ?_
  refine TO.s rfl rfl rfl (StepS.ldB rfl (Ent.at 0 rfl) kscalB_22_true rfl) ?_
  obtain ⟨x7, hx8, hm⟩ := bind_some hm
  refine TO.s rfl rfl rfl (StepS.idx rfl rfl (OwnS.rd (Ent.at 1 rfl)) ksliceB_22_3_1_true (idx_spec hx8).1 (idxm_lt hx8)) ?_
  refine TO.s rfl rfl rfl (StepS.ld0 rfl (OwnS.rd (Ent.at 1 rfl)) kscalB_3_true rfl (idxm hx8) rfl) ?_
  obtain ⟨r9, hc10, hm⟩ := bind_some hm
  refine TO.q rfl rfl rfl (StepQ.call kcallB_138_true rfl rfl (fun _ st => C138  hc10 st)) ?_
  refine TO.code ?_
  refine TC.cond rfl (fun hc11 => ?_) (fun hc11 => ?_)
  · replace hm := cond_t hc11 hm
    refine TC.k ?_
    refine TC.region ?_
    refine TO.s rfl rfl rfl (StepS.assign rfl) ?_
    refine TO.code ?_
    cases hm
    refine TC.ret fun a w e s => ?_
    refine FRet.mk1 (P := Try.prog) (fn := Try.f120) (t := 2) e rfl rfl ?_
    refine ⟨_, _, rfl, ⟨(h0_1), (h0_2), (h0_3), rfl, rfl⟩, ?_⟩
    refine s.mono fun _ s => ?_
    replace s := Sat.front 3 rfl s
    replace s := Sat.front 3 rfl s
    replace s := Sat.front 3 rfl s
    replace s := Sat.front 3 rfl s
    exact s
  · replace hm := cond_f hc11 hm
    refine TC.skipk ?_
    refine TC.k ?_
    refine TC.region ?_
    refine TO.s rfl rfl rfl (StepS.move rfl) ?_
    refine TO.s rfl rfl rfl (StepS.nilc rfl) ?_
    refine TO.s rfl rfl rfl (StepS.fld rfl kfieldB_197_0_0_true) ?_
    refine TO.s rfl rfl rfl (StepS.ldB rfl (Ent.at 0 rfl) kscalB_22_true rfl) ?_
    obtain ⟨x12, hx13, hm⟩ := bind_some hm
    refine TO.s rfl rfl rfl (StepS.idx rfl rfl (OwnS.rd (Ent.at 1 rfl)) ksliceB_22_3_1_true (idx_spec hx13).1 (idxm_lt hx13)) ?_
    refine TO.stO (i := (0 : Int).toNat) (off := 0) (us := [I 2]) 1 2 rfl rfl rfl ksizeB_3_1_true rfl rfl rfl (idx_spec hx13).2 rfl (by simp [Value.oneCell']) rfl ?_
    refine TO.code ?_
    refine TC.k ?_
    refine TC.k ?_
    refine TC.region ?_
    refine TO.s rfl rfl rfl (StepS.move rfl) ?_
    refine TO.s rfl rfl rfl (StepS.nilc rfl) ?_
    refine TO.s rfl rfl rfl (StepS.fld rfl kfieldB_197_2_2_true) ?_
    refine TO.s rfl rfl rfl (StepS.ldB rfl (Ent.at 0 rfl) kscalB_115_true rfl) ?_
    obtain ⟨y14, hs15, hm⟩ := bind_some hm
    obtain ⟨hs15a, hs15b, hs15c, _⟩ := slI_spec hs15
    refine TO.s rfl rfl rfl (StepS.slc rfl (OwnS.rd (Ent.at 3 rfl)) ksliceB_115_4_1_true rfl (by simp [bnd]) hs15a hs15b (by simpa using hs15c)) ?_
    refine TO.s rfl rfl rfl (StepS.lenm rfl (Ent.sub (OwnS.rd (Ent.at 3 rfl)) hs15) ksliceB_115_4_1_true rfl) ?_
    refine TO.s rfl rfl rfl (StepS.move rfl) ?_
    refine TO.code ?_
    obtain ⟨o25, hw26, hm⟩ := bind_some hm
    refine TC.loop hw26 (fun (y17, x19) => fun a w => ∃ v18 : Value, Mid 35 B [(0, .pointer (some ⟨b0_, 0, none⟩)), (21, (subv h0_3 1 (a0.2.2.length : Int) 1)), (22, I (y14.length : Int)), (23, I x19)] (Bx b0_ 197 [v18, h0_2, h0_3] :: OwnS 3 1 v18 (y17.map cI) :: OwnS 4 1 h0_2 (a0.2.1.map cB) :: OwnS 4 1 h0_3 (a0.2.2.map cB) :: L) a w) (fun y23 => fun a w => ∃ v24 : Value, Mid 35 B [] (Bx b0_ 197 [v24, h0_2, h0_3] :: OwnS 3 1 v24 (y23.map cI) :: OwnS 4 1 h0_2 (a0.2.1.map cB) :: OwnS 4 1 h0_3 (a0.2.2.map cB) :: L) a w) (fun (_ : Unit) _ _ => False) ?_ ?_ ?_ ?_
    · rintro ⟨y17, x19⟩ o25r hb27 a w ⟨v18, he, hs⟩
      dsimp only [F120_L0] at hb27
      refine TC.use ?_ he hs
      refine TC.k ?_
      refine TC.region ?_
      refine TO.s rfl rfl rfl (StepS.cmp rfl rfl rfl) ?_
      refine TO.code ?_
      refine TC.k ?_
      refine TC.cond rfl (fun hc28 => ?_) (fun hc28 => ?_)
      · replace hb27 := cond_t hc28 hb27
        refine TC.skipk ?_
        refine TC.k ?_
        obtain ⟨y29, hj31, hb27⟩ := bind_some hb27
        first | refine TC.cutM (fun a w => ∃ v30 : Value, Mid 35 B [(0, .pointer (some ⟨b0_, 0, none⟩)), (21, (subv h0_3 1 (a0.2.2.length : Int) 1)), (22, I (y14.length : Int)), (23, I x19)] (Bx b0_ 197 [v30, h0_2, h0_3] :: OwnS 3 1 v30 (y29.map cI) :: OwnS 4 1 h0_2 (a0.2.1.map cB) :: OwnS 4 1 h0_3 (a0.2.2.map cB) :: L) a w) ?_ ?_ | refine TC.cutX (fun a w => ∃ v30 : Value, Mid 35 B [(0, .pointer (some ⟨b0_, 0, none⟩)), (21, (subv h0_3 1 (a0.2.2.length : Int) 1)), (22, I (y14.length : Int)), (23, I x19)] (Bx b0_ 197 [v30, h0_2, h0_3] :: OwnS 3 1 v30 (y29.map cI) :: OwnS 4 1 h0_2 (a0.2.1.map cB) :: OwnS 4 1 h0_3 (a0.2.2.map cB) :: L) a w) ?_ ?_
        · refine TC.block ?_
          refine TC.k ?_
          refine TC.region ?_
          obtain ⟨x32, hx33, hj31⟩ := bind_some hj31
          refine TO.s rfl rfl rfl (StepS.idx rfl rfl (Ent.sub (OwnS.rd (Ent.at 3 rfl)) hs15) ksliceB_115_4_1_true (idx_spec hx33).1 (idxm_lt hx33)) ?_
          refine TO.s rfl rfl rfl (StepS.ld0 rfl (Ent.sub (OwnS.rd (Ent.at 3 rfl)) hs15) kscalB_4_true rfl (idxm hx33) rfl) ?_
          refine TO.s rfl rfl rfl (StepS.assign rfl) ?_
          refine TO.code ?_
          refine TC.k ?_
          refine TC.region ?_
          refine TO.s rfl rfl rfl (StepS.move rfl) ?_
          refine TO.s rfl rfl rfl (StepS.not rfl) ?_
          refine TO.code ?_
          refine TC.cond rfl (fun hc34 => ?_) (fun hc34 => ?_)
          · replace hj31 := cond_t hc34 hj31
            refine TC.region ?_
            refine TO.s rfl rfl rfl (StepS.move rfl) ?_
            refine TO.s rfl rfl rfl (StepS.nilc rfl) ?_
            refine TO.s rfl rfl rfl (StepS.fld rfl kfieldB_197_0_0_true) ?_
            refine TO.s rfl rfl rfl (StepS.ldB rfl (Ent.at 0 rfl) kscalB_22_true rfl) ?_
            obtain ⟨x35, hx36, hj31⟩ := bind_some hj31
            refine TO.s rfl rfl rfl (StepS.idx rfl rfl (OwnS.rd (Ent.at 1 rfl)) ksliceB_22_3_1_true (idx_spec hx36).1 (idxm_lt hx36)) ?_
            refine TO.stO (i := (0 : Int).toNat) (off := 0) (us := [I 3]) 1 3 rfl rfl rfl ksizeB_3_1_true rfl rfl rfl (idx_spec hx36).2 rfl (by simp [Value.oneCell']) rfl ?_
            cases hj31
            refine TO.nil fun a w e s => ?_
            exact ⟨v18, e.sub (lk_of_allIn ⟨rfl, rfl, rfl, rfl, trivial⟩), s⟩
          · replace hj31 := cond_f hc34 hj31
            cases hj31
            refine TC.skip fun a w e s => ?_
            exact ⟨v18, e.sub (lk_of_allIn ⟨rfl, rfl, rfl, rfl, trivial⟩), s⟩
        · intro a w ⟨v30, he, hs⟩
          refine TC.use ?_ he hs
          refine TC.region ?_
          refine TO.s rfl rfl rfl (StepS.ari rfl rfl rfl) ?_
          refine TO.s rfl rfl rfl (StepS.move rfl) ?_
          cases hb27
          refine TO.nil fun a w e s => ?_
          exact ⟨v30, e.sub (lk_of_allIn ⟨rfl, rfl, rfl, rfl, trivial⟩), s⟩
      · replace hb27 := cond_f hc28 hb27
        cases hb27
        refine TC.exit rfl fun a w e s => ?_
        exact ⟨v18, e.sub (lk_of_allIn trivial), s⟩
    · exact fun a w e s => ⟨h0_1, e.sub (lk_of_allIn ⟨rfl, rfl, rfl, rfl, trivial⟩), s⟩
    · rintro y23 rfl a w ⟨v24, he, hs⟩
      dsimp only [Ctl.on] at hm
      refine TC.use ?_ he hs
      refine TC.k ?_
      refine TC.region ?_
      refine TO.s rfl rfl rfl (StepS.assign rfl) ?_
      refine TO.code ?_
      cases hm
      refine TC.ret fun a w e s => ?_
      refine FRet.mk1 (P := Try.prog) (fn := Try.f120) (t := 2) e rfl rfl ?_
      refine ⟨_, _, rfl, ⟨(v24), (h0_2), (h0_3), rfl, rfl⟩, ?_⟩
      refine s.mono fun _ s => ?_
      replace s := Sat.front 3 rfl s
      replace s := Sat.front 3 rfl s
      replace s := Sat.front 3 rfl s
      replace s := Sat.front 3 rfl s
      exact s
    · rintro r rfl
      exact fun a w h => h.elim

set_option maxRecDepth 100000 in
theorem C121 {B : World} {L : List HP} {a0 : (List Int) × (List Bool) × List Bool} {a1 : Int} {b0_ : Nat} {h0_1 : Value} {h0_2 : Value} {h0_3 : Value} {r0 : Int} {s0 : (List Int) × (List Bool) × List Bool} (hm : F121 a0 a1 = some (r0, s0)) {w : World} (st : St B (Bx b0_ 197 [h0_1, h0_2, h0_3] :: OwnS 3 1 h0_1 (a0.1.map cI) :: OwnS 4 1 h0_2 (a0.2.1.map cB) :: OwnS 4 1 h0_3 (a0.2.2.map cB) :: L) w) : Calls Try.prog 121 #[.pointer (some ⟨b0_, 0, none⟩), I a1] w (fun e w' => ∃ v M, e = .returned v ∧ (∃ (qv1 : Value) (qv2 : Value) (qv3 : Value), v = I r0 ∧ M = (Bx b0_ 197 [qv1, qv2, qv3] :: OwnS 3 1 qv1 (s0.1.map cI) :: OwnS 4 1 qv2 (s0.2.1.map cB) :: OwnS 4 1 qv3 (s0.2.2.map cB) :: L)) ∧ St B M w') := by
  refine calls_of (N := 35) (L := (Bx b0_ 197 [h0_1, h0_2, h0_3] :: OwnS 3 1 h0_1 (a0.1.map cI) :: OwnS 4 1 h0_2 (a0.2.1.map cB) :: OwnS 4 1 h0_3 (a0.2.2.map cB) :: L)) (args := [.pointer (some ⟨b0_, 0, none⟩), I a1]) Try.func121 rfl rfl rfl ?_ st
  dsimp only [F121] at hm
  refine TC.k ?_
  refine TC.region ?_
  refine TO.s rfl rfl rfl (StepS.assign rfl) ?_
  refine TO.code ?_
  refine TC.k ?_
  refine TC.block ?_
  refine TC.k ?_
  refine TC.region ?_
  refine TO.s rfl rfl rfl (StepS.move rfl) ?_
  refine TO.s rfl rfl rfl (StepS.nilc rfl) ?_
  refine TO.s rfl rfl rfl (StepS.fld rfl kfieldB_197_0_0_true) ?_
  refine TO.s rfl rfl rfl (StepS.ldB rfl (Ent.at 0 rfl) kscalB_22_true rfl) ?_
  obtain ⟨x7, hx8, hm⟩ := bind_some hm
  refine TO.s rfl rfl rfl (StepS.idx rfl rfl (OwnS.rd (Ent.at 1 rfl)) ksliceB_22_3_1_true (idx_spec hx8).1 (idxm_lt hx8)) ?_
  refine TO.s rfl rfl rfl (StepS.ld0 rfl (OwnS.rd (Ent.at 1 rfl)) kscalB_3_true rfl (idxm hx8) rfl) ?_
  obtain ⟨r9, hc10, hm⟩ := bind_some hm
  refine TO.q rfl rfl rfl (StepQ.call kcallB_138_true rfl rfl (fun _ st => C138  hc10 st)) ?_
  refine TO.s rfl rfl rfl (StepS.not rfl) ?_
  refine TO.s rfl rfl rfl (StepS.assign rfl) ?_
  refine TO.code ?_
  refine TC.cond rfl (fun hc11 => ?_) (fun hc11 => ?_)
  · replace hm := cond_t hc11 hm
    refine TC.k ?_
    refine TC.region ?_
    refine TO.s rfl rfl rfl (StepS.assign rfl) ?_
    refine TO.code ?_
    cases hm
    refine TC.ret fun a w e s => ?_
    refine FRet.mk1 (P := Try.prog) (fn := Try.f121) (t := 4) e rfl rfl ?_
    refine ⟨_, _, rfl, ⟨(h0_1), (h0_2), (h0_3), rfl, rfl⟩, ?_⟩
    refine s.mono fun _ s => ?_
    replace s := Sat.front 3 rfl s
    replace s := Sat.front 3 rfl s
    replace s := Sat.front 3 rfl s
    replace s := Sat.front 3 rfl s
    exact s
  · replace hm := cond_f hc11 hm
    refine TC.k ?_
    refine TC.region ?_
    refine TO.s rfl rfl rfl (StepS.move rfl) ?_
    refine TO.s rfl rfl rfl (StepS.nilc rfl) ?_
    refine TO.s rfl rfl rfl (StepS.fld rfl kfieldB_197_0_0_true) ?_
    refine TO.s rfl rfl rfl (StepS.ldB rfl (Ent.at 0 rfl) kscalB_22_true rfl) ?_
    refine TO.s rfl rfl rfl (StepS.move rfl) ?_
    obtain ⟨x12, hx13, hm⟩ := bind_some hm
    refine TO.s rfl rfl rfl (StepS.idx rfl rfl (OwnS.rd (Ent.at 1 rfl)) ksliceB_22_3_1_true (idx_spec hx13).1 (idxm_lt hx13)) ?_
    refine TO.s rfl rfl rfl (StepS.ld0 rfl (OwnS.rd (Ent.at 1 rfl)) kscalB_3_true rfl (idxm hx13) rfl) ?_
    obtain ⟨r14, hc15, hm⟩ := bind_some hm
    refine TO.q rfl rfl rfl (StepQ.call kcallB_138_true rfl rfl (fun _ st => C138  hc15 st)) ?_
    refine TO.s rfl rfl rfl (StepS.assign rfl) ?_
    refine TO.code ?_
    refine TC.cond rfl (fun hc16 => ?_) (fun hc16 => ?_)
    · replace hm := cond_t hc16 hm
      refine TC.k ?_
      refine TC.region ?_
      refine TO.s rfl rfl rfl (StepS.assign rfl) ?_
      refine TO.code ?_
      cases hm
      refine TC.ret fun a w e s => ?_
      refine FRet.mk1 (P := Try.prog) (fn := Try.f121) (t := 4) e rfl rfl ?_
      refine ⟨_, _, rfl, ⟨(h0_1), (h0_2), (h0_3), rfl, rfl⟩, ?_⟩
      refine s.mono fun _ s => ?_
      replace s := Sat.front 3 rfl s
      replace s := Sat.front 3 rfl s
      replace s := Sat.front 3 rfl s
      replace s := Sat.front 3 rfl s
      exact s
    · replace hm := cond_f hc16 hm
      refine TC.skipk ?_
      refine TC.k ?_
      refine TC.region_tail 12 kfollows_mixedOrders_true (by kernel_rfl) ?_
      refine TS.s rfl rfl rfl (StepS.move rfl) ?_
      refine TS.s rfl rfl rfl (StepS.nilc rfl) ?_
      refine TS.s rfl rfl rfl (StepS.fld rfl kfieldB_197_0_0_true) ?_
      refine TS.s rfl rfl rfl (StepS.ldB rfl (Ent.at 0 rfl) kscalB_22_true rfl) ?_
      refine TS.s rfl rfl rfl (StepS.move rfl) ?_
      refine TS.s rfl rfl rfl (StepS.move rfl) ?_
      refine TS.s rfl rfl rfl (StepS.nilc rfl) ?_
      refine TS.s rfl rfl rfl (StepS.fld rfl kfieldB_197_0_0_true) ?_
      refine TS.s rfl rfl rfl (StepS.ldB rfl (Ent.at 0 rfl) kscalB_22_true rfl) ?_
      obtain ⟨x17, hx18, hm⟩ := bind_some hm
      refine TS.s rfl rfl rfl (StepS.idx rfl rfl (OwnS.rd (Ent.at 1 rfl)) ksliceB_22_3_1_true (idx_spec hx18).1 (idxm_lt hx18)) ?_
      refine TS.s rfl rfl rfl (StepS.ld0 rfl (OwnS.rd (Ent.at 1 rfl)) kscalB_3_true rfl (idxm hx18) rfl) ?_
      obtain ⟨x19, hx20, hm⟩ := bind_some hm
      refine TS.s rfl rfl rfl (StepS.idx rfl rfl (OwnS.rd (Ent.at 1 rfl)) ksliceB_22_3_1_true (idx_spec hx20).1 (idxm_lt hx20)) ?_
      refine TS.nil ?_
      refine TO.at ?_
      refine TO.stO (i := a1.toNat) (off := 0) (us := [I x17]) 1 x17 rfl rfl rfl ksizeB_3_1_true rfl rfl rfl (idx_spec hx20).2 rfl (by simp [Value.oneCell']) rfl ?_
      refine TO.code ?_
      refine TC.k ?_
      refine TC.region ?_
      refine TO.s rfl rfl rfl (StepS.assign rfl) ?_
      refine TO.code ?_
      cases hm
      refine TC.ret fun a w e s => ?_
      refine FRet.mk1 (P := Try.prog) (fn := Try.f121) (t := 4) e rfl rfl ?_
      refine ⟨_, _, rfl, ⟨(h0_1), (h0_2), (h0_3), rfl, rfl⟩, ?_⟩
      refine s.mono fun _ s => ?_
      replace s := Sat.front 3 rfl s
      replace s := Sat.front 3 rfl s
      replace s := Sat.front 3 rfl s
      replace s := Sat.front 3 rfl s
      exact s

set_option maxRecDepth 100000 in
theorem C122 {B : World} {L : List HP} {a0 : (List Int) × (List Bool) × List Bool} {a1 : Int} {a2 : Int} {b0_ : Nat} {h0_1 : Value} {h0_2 : Value} {h0_3 : Value} {r0 : Int} {s0 : (List Int) × (List Bool) × List Bool} (hm : F122 a0 a1 a2 = some (r0, s0)) {w : World} (st : St B (Bx b0_ 197 [h0_1, h0_2, h0_3] :: OwnS 3 1 h0_1 (a0.1.map cI) :: OwnS 4 1 h0_2 (a0.2.1.map cB) :: OwnS 4 1 h0_3 (a0.2.2.map cB) :: L) w) : Calls Try.prog 122 #[.pointer (some ⟨b0_, 0, none⟩), I a1, I a2] w (fun e w' => ∃ v M, e = .returned v ∧ (∃ (qv1 : Value) (qv2 : Value) (qv3 : Value), v = I r0 ∧ M = (Bx b0_ 197 [qv1, qv2, qv3] :: OwnS 3 1 qv1 (s0.1.map cI) :: OwnS 4 1 qv2 (s0.2.1.map cB) :: OwnS 4 1 qv3 (s0.2.2.map cB) :: L)) ∧ St B M w') := by
  refine calls_of (N := 62) (L := (Bx b0_ 197 [h0_1, h0_2, h0_3] :: OwnS 3 1 h0_1 (a0.1.map cI) :: OwnS 4 1 h0_2 (a0.2.1.map cB) :: OwnS 4 1 h0_3 (a0.2.2.map cB) :: L)) (args := [.pointer (some ⟨b0_, 0, none⟩), I a1, I a2]) Try.func122 rfl rfl rfl ?_ st
  dsimp only [F122] at hm
  refine TC.k ?_
  refine TC.region ?_
  refine TO.s rfl rfl rfl (StepS.assign rfl) ?_
  refine TO.code ?_
  refine TC.k ?_
  refine TC.block ?_
  refine TC.k ?_
  refine TC.region ?_
  refine TO.s rfl rfl rfl (StepS.move rfl) ?_
  refine TO.s rfl rfl rfl (StepS.nilc rfl) ?_
  refine TO.s rfl rfl rfl (StepS.fld rfl kfieldB_197_0_0_true) ?_
  refine TO.s rfl rfl rfl (StepS.ldB rfl (Ent.at 0 rfl) kscalB_22_true rfl) ?_
  refine TO.s rfl rfl rfl (StepS.move rfl) ?_
  obtain ⟨x7, hx8, hm⟩ := bind_some hm
  refine TO.s rfl rfl rfl (StepS.idx rfl rfl (OwnS.rd (Ent.at 1 rfl)) ksliceB_22_3_1_true (idx_spec hx8).1 (idxm_lt hx8)) ?_
  refine TO.s rfl rfl rfl (StepS.ld0 rfl (OwnS.rd (Ent.at 1 rfl)) kscalB_3_true rfl (idxm hx8) rfl) ?_
  refine TO.s rfl rfl rfl (StepS.cmp rfl rfl rfl) ?_
  refine TO.s rfl rfl rfl (StepS.assign rfl) ?_
  refine TO.code ?_
  refine TC.cond rfl (fun hc9 => ?_) (fun hc9 => ?_)
  · replace hm := cond_t hc9 hm
    refine TC.k ?_
    refine TC.region ?_
    refine TO.s rfl rfl rfl (StepS.assign rfl) ?_
    refine TO.code ?_
    cases hm
    refine TC.ret fun a w e s => ?_
    refine FRet.mk1 (P := Try.prog) (fn := Try.f122) (t := 6) e rfl rfl ?_
    refine ⟨_, _, rfl, ⟨(h0_1), (h0_2), (h0_3), rfl, rfl⟩, ?_⟩
    refine s.mono fun _ s => ?_
    replace s := Sat.front 3 rfl s
    replace s := Sat.front 3 rfl s
    replace s := Sat.front 3 rfl s
    replace s := Sat.front 3 rfl s
    exact s
  · replace hm := cond_f hc9 hm
    refine TC.k ?_
    refine TC.region ?_
    refine TO.s rfl rfl rfl (StepS.move rfl) ?_
    refine TO.s rfl rfl rfl (StepS.nilc rfl) ?_
    refine TO.s rfl rfl rfl (StepS.fld rfl kfieldB_197_0_0_true) ?_
    refine TO.s rfl rfl rfl (StepS.ldB rfl (Ent.at 0 rfl) kscalB_22_true rfl) ?_
    refine TO.s rfl rfl rfl (StepS.move rfl) ?_
    obtain ⟨x10, hx11, hm⟩ := bind_some hm
    refine TO.s rfl rfl rfl (StepS.idx rfl rfl (OwnS.rd (Ent.at 1 rfl)) ksliceB_22_3_1_true (idx_spec hx11).1 (idxm_lt hx11)) ?_
    refine TO.s rfl rfl rfl (StepS.ld0 rfl (OwnS.rd (Ent.at 1 rfl)) kscalB_3_true rfl (idxm hx11) rfl) ?_
    obtain ⟨r12, hc13, hm⟩ := bind_some hm
    refine TO.q rfl rfl rfl (StepQ.call kcallB_138_true rfl rfl (fun _ st => C138  hc13 st)) ?_
    refine TO.s rfl rfl rfl (StepS.assign rfl) ?_
    refine TO.code ?_
    refine TC.cond rfl (fun hc14 => ?_) (fun hc14 => ?_)
    · replace hm := cond_t hc14 hm
      refine TC.k ?_
      refine TC.region ?_
      refine TO.s rfl rfl rfl (StepS.assign rfl) ?_
      refine TO.code ?_
      cases hm
      refine TC.ret fun a w e s => ?_
      refine FRet.mk1 (P := Try.prog) (fn := Try.f122) (t := 6) e rfl rfl ?_
      refine ⟨_, _, rfl, ⟨(h0_1), (h0_2), (h0_3), rfl, rfl⟩, ?_⟩
      refine s.mono fun _ s => ?_
      replace s := Sat.front 3 rfl s
      replace s := Sat.front 3 rfl s
      replace s := Sat.front 3 rfl s
      replace s := Sat.front 3 rfl s
      exact s
    · replace hm := cond_f hc14 hm
      refine TC.k ?_
      refine TC.region ?_
      refine TO.s rfl rfl rfl (StepS.move rfl) ?_
      refine TO.s rfl rfl rfl (StepS.nilc rfl) ?_
      refine TO.s rfl rfl rfl (StepS.fld rfl kfieldB_197_0_0_true) ?_
      refine TO.s rfl rfl rfl (StepS.ldB rfl (Ent.at 0 rfl) kscalB_22_true rfl) ?_
      refine TO.s rfl rfl rfl (StepS.move rfl) ?_
      obtain ⟨x15, hx16, hm⟩ := bind_some hm
      refine TO.s rfl rfl rfl (StepS.idx rfl rfl (OwnS.rd (Ent.at 1 rfl)) ksliceB_22_3_1_true (idx_spec hx16).1 (idxm_lt hx16)) ?_
      refine TO.s rfl rfl rfl (StepS.ld0 rfl (OwnS.rd (Ent.at 1 rfl)) kscalB_3_true rfl (idxm hx16) rfl) ?_
      refine TO.s rfl rfl rfl (StepS.cmp rfl rfl rfl) ?_
      refine TO.s rfl rfl rfl (StepS.assign rfl) ?_
      refine TO.code ?_
      refine TC.cond rfl (fun hc17 => ?_) (fun hc17 => ?_)
      · replace hm := cond_t hc17 hm
        refine TC.k ?_
        refine TC.region ?_
        refine TO.s rfl rfl rfl (StepS.assign rfl) ?_
        refine TO.code ?_
        cases hm
        refine TC.ret fun a w e s => ?_
        refine FRet.mk1 (P := Try.prog) (fn := Try.f122) (t := 6) e rfl rfl ?_
        refine ⟨_, _, rfl, ⟨(h0_1), (h0_2), (h0_3), rfl, rfl⟩, ?_⟩
        refine s.mono fun _ s => ?_
        replace s := Sat.front 3 rfl s
        replace s := Sat.front 3 rfl s
        replace s := Sat.front 3 rfl s
        replace s := Sat.front 3 rfl s
        exact s
      · replace hm := cond_f hc17 hm
        refine TC.k ?_
        refine TC.region ?_
        refine TO.s rfl rfl rfl (StepS.move rfl) ?_
        refine TO.s rfl rfl rfl (StepS.nilc rfl) ?_
        refine TO.s rfl rfl rfl (StepS.fld rfl kfieldB_197_0_0_true) ?_
        refine TO.s rfl rfl rfl (StepS.ldB rfl (Ent.at 0 rfl) kscalB_22_true rfl) ?_
        refine TO.s rfl rfl rfl (StepS.move rfl) ?_
        obtain ⟨x18, hx19, hm⟩ := bind_some hm
        refine TO.s rfl rfl rfl (StepS.idx rfl rfl (OwnS.rd (Ent.at 1 rfl)) ksliceB_22_3_1_true (idx_spec hx19).1 (idxm_lt hx19)) ?_
        refine TO.s rfl rfl rfl (StepS.ld0 rfl (OwnS.rd (Ent.at 1 rfl)) kscalB_3_true rfl (idxm hx19) rfl) ?_
        refine TO.s rfl rfl rfl (StepS.cmp rfl rfl rfl) ?_
        refine TO.s rfl rfl rfl (StepS.assign rfl) ?_
        refine TO.code ?_
        obtain ⟨y20, hj22, hm⟩ := bind_some hm
        first | refine TC.cutM (fun a w => ∃ v21 : Value, Mid 62 B [(0, .pointer (some ⟨b0_, 0, none⟩)), (1, I a1), (2, I a2)] (Bx b0_ 197 [v21, h0_2, h0_3] :: OwnS 3 1 v21 (y20.map cI) :: OwnS 4 1 h0_2 (a0.2.1.map cB) :: OwnS 4 1 h0_3 (a0.2.2.map cB) :: L) a w) ?_ ?_ | refine TC.cutX (fun a w => ∃ v21 : Value, Mid 62 B [(0, .pointer (some ⟨b0_, 0, none⟩)), (1, I a1), (2, I a2)] (Bx b0_ 197 [v21, h0_2, h0_3] :: OwnS 3 1 v21 (y20.map cI) :: OwnS 4 1 h0_2 (a0.2.1.map cB) :: OwnS 4 1 h0_3 (a0.2.2.map cB) :: L) a w) ?_ ?_
        · refine TC.cond rfl (fun hc23 => ?_) (fun hc23 => ?_)
          · replace hj22 := cond_t hc23 hj22
            refine TC.region ?_
            refine TO.s rfl rfl rfl (StepS.move rfl) ?_
            refine TO.s rfl rfl rfl (StepS.nilc rfl) ?_
            refine TO.s rfl rfl rfl (StepS.fld rfl kfieldB_197_0_0_true) ?_
            refine TO.s rfl rfl rfl (StepS.ldB rfl (Ent.at 0 rfl) kscalB_22_true rfl) ?_
            refine TO.s rfl rfl rfl (StepS.move rfl) ?_
            obtain ⟨x24, hx25, hj22⟩ := bind_some hj22
            refine TO.s rfl rfl rfl (StepS.idx rfl rfl (OwnS.rd (Ent.at 1 rfl)) ksliceB_22_3_1_true (idx_spec hx25).1 (idxm_lt hx25)) ?_
            refine TO.stO (i := a2.toNat) (off := 0) (us := [I 3]) 1 3 rfl rfl rfl ksizeB_3_1_true rfl rfl rfl (idx_spec hx25).2 rfl (by simp [Value.oneCell']) rfl ?_
            cases hj22
            refine TO.nil fun a w e s => ?_
            exact ⟨h0_1, e.sub (lk_of_allIn ⟨rfl, rfl, rfl, trivial⟩), s⟩
          · replace hj22 := cond_f hc23 hj22
            cases hj22
            refine TC.skip fun a w e s => ?_
            exact ⟨h0_1, e.sub (lk_of_allIn ⟨rfl, rfl, rfl, trivial⟩), s⟩
        · intro a w ⟨v21, he, hs⟩
          refine TC.use ?_ he hs
          refine TC.k ?_
          refine TC.region_tail 13 kfollows_mixedOrders_true (by kernel_rfl) ?_
          refine TS.s rfl rfl rfl (StepS.move rfl) ?_
          refine TS.s rfl rfl rfl (StepS.nilc rfl) ?_
          refine TS.s rfl rfl rfl (StepS.fld rfl kfieldB_197_0_0_true) ?_
          refine TS.s rfl rfl rfl (StepS.ldB rfl (Ent.at 0 rfl) kscalB_22_true rfl) ?_
          refine TS.s rfl rfl rfl (StepS.move rfl) ?_
          refine TS.s rfl rfl rfl (StepS.move rfl) ?_
          refine TS.s rfl rfl rfl (StepS.nilc rfl) ?_
          refine TS.s rfl rfl rfl (StepS.fld rfl kfieldB_197_0_0_true) ?_
          refine TS.s rfl rfl rfl (StepS.ldB rfl (Ent.at 0 rfl) kscalB_22_true rfl) ?_
          refine TS.s rfl rfl rfl (StepS.move rfl) ?_
          obtain ⟨x26, hx27, hm⟩ := bind_some hm
          refine TS.s rfl rfl rfl (StepS.idx rfl rfl (OwnS.rd (Ent.at 1 rfl)) ksliceB_22_3_1_true (idx_spec hx27).1 (idxm_lt hx27)) ?_
          refine TS.s rfl rfl rfl (StepS.ld0 rfl (OwnS.rd (Ent.at 1 rfl)) kscalB_3_true rfl (idxm hx27) rfl) ?_
          obtain ⟨x28, hx29, hm⟩ := bind_some hm
          refine TS.s rfl rfl rfl (StepS.idx rfl rfl (OwnS.rd (Ent.at 1 rfl)) ksliceB_22_3_1_true (idx_spec hx29).1 (idxm_lt hx29)) ?_
          refine TS.nil ?_
          refine TO.at ?_
          refine TO.stO (i := a1.toNat) (off := 0) (us := [I x26]) 1 x26 rfl rfl rfl ksizeB_3_1_true rfl rfl rfl (idx_spec hx29).2 rfl (by simp [Value.oneCell']) rfl ?_
          refine TO.code ?_
          refine TC.k ?_
          refine TC.region ?_
          refine TO.s rfl rfl rfl (StepS.assign rfl) ?_
          refine TO.code ?_
          cases hm
          refine TC.ret fun a w e s => ?_
          refine FRet.mk1 (P := Try.prog) (fn := Try.f122) (t := 6) e rfl rfl ?_
          refine ⟨_, _, rfl, ⟨(v21), (h0_2), (h0_3), rfl, rfl⟩, ?_⟩
          refine s.mono fun _ s => ?_
          replace s := Sat.front 3 rfl s
          replace s := Sat.front 3 rfl s
          replace s := Sat.front 3 rfl s
          replace s := Sat.front 3 rfl s
          exact s

set_option maxHeartbeats 4000000 in
set_option maxRecDepth 100000 in
theorem C78 {B : World} {L : List HP} {a0 : (List Int) × (List Bool) × List Bool} {a1 : Int × Int × Int × Int} {b0_ : Nat} {h0_1 : Value} {h0_2 : Value} {h0_3 : Value} {r0 : Int} {s0 : (List Int) × (List Bool) × List Bool} (hm : F78 a0 a1 = some (r0, s0)) {w : World} (st : St B (Bx b0_ 197 [h0_1, h0_2, h0_3] :: OwnS 3 1 h0_1 (a0.1.map cI) :: OwnS 4 1 h0_2 (a0.2.1.map cB) :: OwnS 4 1 h0_3 (a0.2.2.map cB) :: L) w) : Calls Try.prog 78 #[.pointer (some ⟨b0_, 0, none⟩), .agg (cTiiii a1).toArray] w (fun e w' => ∃ v M, e = .returned v ∧ (∃ (qv1 : Value) (qv2 : Value) (qv3 : Value), v = I r0 ∧ M = (Bx b0_ 197 [qv1, qv2, qv3] :: OwnS 3 1 qv1 (s0.1.map cI) :: OwnS 4 1 qv2 (s0.2.1.map cB) :: OwnS 4 1 qv3 (s0.2.2.map cB) :: L)) ∧ St B M w') := by
  refine calls_of (N := 149) (L := (Bx b0_ 197 [h0_1, h0_2, h0_3] :: OwnS 3 1 h0_1 (a0.1.map cI) :: OwnS 4 1 h0_2 (a0.2.1.map cB) :: OwnS 4 1 h0_3 (a0.2.2.map cB) :: L)) (args := [.pointer (some ⟨b0_, 0, none⟩), .agg (cTiiii a1).toArray]) Try.func78 rfl rfl rfl ?_ st
  dsimp only [F78] at hm
  refine TC.k ?_
  refine TC.region ?_
  refine TO.box (cs := [I a1.1, I a1.2.1, I a1.2.2.1, I a1.2.2.2]) rfl rfl rfl fun b7 => ?_
  refine TO.s rfl rfl rfl (StepS.assign rfl) ?_
  refine TO.code ?_
  refine TC.k ?_
  refine TC.region ?_
  refine TO.s rfl rfl rfl (StepS.move rfl) ?_
  refine TO.s rfl rfl rfl (StepS.nilc rfl) ?_
  refine TO.s rfl rfl rfl (StepS.fld rfl kfieldB_197_0_0_true) ?_
  refine TO.s rfl rfl rfl (StepS.ldB rfl (Ent.at 1 rfl) kscalB_22_true rfl) ?_
  refine TO.s rfl rfl rfl (StepS.lenm rfl (OwnS.rd (Ent.at 2 rfl)) ksliceB_22_3_1_true rfl) ?_
  refine TO.alloc kinfo_3_bind_zero_some_I_0 rfl rfl fun b8 => ?_
  refine TO.stB (us := [I (a0.1.length : Int)]) 0 [I (a0.1.length : Int)] rfl rfl rfl ksizeB_3_1_true rfl rfl rfl (by simp [Value.oneCell']) rfl ?_
  refine TO.code ?_
  refine TC.k ?_
  refine TC.region ?_
  refine TO.s rfl rfl rfl (StepS.mkfn rfl) ?_
  refine TO.s rfl rfl rfl (StepS.assign rfl) ?_
  refine TO.code ?_
  refine TC.k ?_
  refine TC.region ?_
  refine TO.s rfl rfl rfl (StepS.mkfn rfl) ?_
  refine TO.s rfl rfl rfl (StepS.assign rfl) ?_
  refine TO.code ?_
  refine TC.k ?_
  refine TC.k ?_
  refine TC.region ?_
  refine TO.s rfl rfl rfl (StepS.fld rfl kfieldB_106_0_0_true) ?_
  refine TO.s rfl rfl rfl (StepS.ldB rfl (Ent.at 1 rfl) kscalB_3_true rfl) ?_
  refine TO.s rfl rfl rfl (StepS.cmp rfl rfl rfl) ?_
  refine TO.s rfl rfl rfl (StepS.move rfl) ?_
  refine TO.mid1 4 25 (.bool ((decide (a1.1 < 1)) || (decide (a1.1 > 6)))) ?_ ?_
  · refine bcase ((decide (a1.1 < 1))) (fun hb9 => ?_) (fun hb9 => ?_)
    · refine TO.skip rfl rfl rfl (skipT hb9) rfl rfl ?_
      refine TO.skip rfl rfl rfl (skipT hb9) rfl rfl ?_
      refine TO.skip rfl rfl rfl (skipT hb9) rfl rfl ?_
      refine TO.s rfl rfl rfl (StepS.pickT rfl hb9 rfl) ?_
      exact TO.up1 4 0 rfl rfl (by rw [hb9]; rfl) rfl
    · refine TO.sw rfl rfl rfl hb9 rfl rfl (StepS.fld rfl kfieldB_106_0_0_true) ?_
      refine TO.sw rfl rfl rfl hb9 rfl rfl (StepS.ldB rfl (Ent.at 1 rfl) kscalB_3_true rfl) ?_
      refine TO.sw rfl rfl rfl hb9 rfl rfl (StepS.cmp rfl rfl rfl) ?_
      refine TO.s rfl rfl rfl (StepS.pickF rfl hb9 rfl) ?_
      exact TO.up1 4 0 rfl rfl (by rw [hb9]; rfl) rfl
  refine TO.code ?_
  refine TC.cond rfl (fun hc10 => ?_) (fun hc10 => ?_)
  · replace hm := cond_t hc10 hm
    refine TC.k ?_
    refine TC.region ?_
    refine TO.s rfl rfl rfl (StepS.assign rfl) ?_
    refine TO.code ?_
    cases hm
    refine TC.ret fun a w e s => ?_
    refine FRet.mk1 (P := Try.prog) (fn := Try.f78) (t := 4) e rfl rfl ?_
    refine ⟨_, _, rfl, ⟨(h0_1), (h0_2), (h0_3), rfl, rfl⟩, ?_⟩
    refine s.mono fun _ s => ?_
    replace s := Sat.front 5 rfl s
    replace s := Sat.front 5 rfl s
    replace s := Sat.front 5 rfl s
    replace s := Sat.front 5 rfl s
    replace s := Sat.erase 4 s
    replace s := Sat.erase 4 s
    exact s
  · replace hm := cond_f hc10 hm
    refine TC.skipk ?_
    refine TC.k ?_
    refine TC.region ?_
    refine TO.s rfl rfl rfl (StepS.fld rfl kfieldB_106_1_1_true) ?_
    refine TO.s rfl rfl rfl (StepS.ldB rfl (Ent.at 1 rfl) kscalB_3_true rfl) ?_
    refine TO.s rfl rfl rfl (StepS.assign rfl) ?_
    refine TO.code ?_
    refine TC.k ?_
    refine TC.k ?_
    refine TC.region ?_
    refine TO.s rfl rfl rfl (StepS.fld rfl kfieldB_106_0_0_true) ?_
    refine TO.s rfl rfl rfl (StepS.ldB rfl (Ent.at 1 rfl) kscalB_3_true rfl) ?_
    refine TO.code ?_
    obtain ⟨x11, hj12, hm⟩ := bind_some hm
    first | refine TC.cutM (fun a w => Mid 149 B [(0, .pointer (some ⟨b0_, 0, none⟩)), (3, .pointer (some ⟨b7, 0, none⟩)), (6, .func (.func 116) #[] #[.pointer (some ⟨b8, 0, none⟩)]), (7, .func (.func 117) #[] #[.pointer (some ⟨b8, 0, none⟩)]), (8, I x11)] (Bx b8 3 [I (a0.1.length : Int)] :: Bx b7 106 [I a1.1, I a1.2.1, I a1.2.2.1, I a1.2.2.2] :: Bx b0_ 197 [h0_1, h0_2, h0_3] :: OwnS 3 1 h0_1 (a0.1.map cI) :: OwnS 4 1 h0_2 (a0.2.1.map cB) :: OwnS 4 1 h0_3 (a0.2.2.map cB) :: L) a w) ?_ ?_ | refine TC.cutX (fun a w => Mid 149 B [(0, .pointer (some ⟨b0_, 0, none⟩)), (3, .pointer (some ⟨b7, 0, none⟩)), (6, .func (.func 116) #[] #[.pointer (some ⟨b8, 0, none⟩)]), (7, .func (.func 117) #[] #[.pointer (some ⟨b8, 0, none⟩)]), (8, I x11)] (Bx b8 3 [I (a0.1.length : Int)] :: Bx b7 106 [I a1.1, I a1.2.1, I a1.2.2.1, I a1.2.2.2] :: Bx b0_ 197 [h0_1, h0_2, h0_3] :: OwnS 3 1 h0_1 (a0.1.map cI) :: OwnS 4 1 h0_2 (a0.2.1.map cB) :: OwnS 4 1 h0_3 (a0.2.2.map cB) :: L) a w) ?_ ?_
    · refine TC.block ?_
      refine TC.k ?_
      refine TC.k ?_
      refine TC.region ?_
      refine TO.s rfl rfl rfl (StepS.cmp rfl rfl rfl) ?_
      refine TO.s rfl rfl rfl (StepS.assign rfl) ?_
      refine TO.code ?_
      obtain ⟨b13, hj14, hj12⟩ := bind_some hj12
      first | refine TC.cutM (fun a w => Mid 149 B [(0, .pointer (some ⟨b0_, 0, none⟩)), (3, .pointer (some ⟨b7, 0, none⟩)), (6, .func (.func 116) #[] #[.pointer (some ⟨b8, 0, none⟩)]), (7, .func (.func 117) #[] #[.pointer (some ⟨b8, 0, none⟩)]), (8, I a1.2.1), (30, .bool b13)] (Bx b8 3 [I (a0.1.length : Int)] :: Bx b7 106 [I a1.1, I a1.2.1, I a1.2.2.1, I a1.2.2.2] :: Bx b0_ 197 [h0_1, h0_2, h0_3] :: OwnS 3 1 h0_1 (a0.1.map cI) :: OwnS 4 1 h0_2 (a0.2.1.map cB) :: OwnS 4 1 h0_3 (a0.2.2.map cB) :: L) a w) ?_ ?_ | refine TC.cutX (fun a w => Mid 149 B [(0, .pointer (some ⟨b0_, 0, none⟩)), (3, .pointer (some ⟨b7, 0, none⟩)), (6, .func (.func 116) #[] #[.pointer (some ⟨b8, 0, none⟩)]), (7, .func (.func 117) #[] #[.pointer (some ⟨b8, 0, none⟩)]), (8, I a1.2.1), (30, .bool b13)] (Bx b8 3 [I (a0.1.length : Int)] :: Bx b7 106 [I a1.1, I a1.2.1, I a1.2.2.1, I a1.2.2.2] :: Bx b0_ 197 [h0_1, h0_2, h0_3] :: OwnS 3 1 h0_1 (a0.1.map cI) :: OwnS 4 1 h0_2 (a0.2.1.map cB) :: OwnS 4 1 h0_3 (a0.2.2.map cB) :: L) a w) ?_ ?_
      · refine TC.cond rfl (fun hc15 => ?_) (fun hc15 => ?_)
        · replace hj14 := cond_t hc15 hj14
          cases hj14
          refine TC.skip fun a w e s => ?_
          exact ⟨e.sub (lk_of_allIn ⟨rfl, rfl, rfl, rfl, rfl, rfl, trivial⟩), s⟩
        · replace hj14 := cond_f hc15 hj14
          refine TC.region ?_
          refine TO.s rfl rfl rfl (StepS.cmp rfl rfl rfl) ?_
          refine TO.s rfl rfl rfl (StepS.assign rfl) ?_
          cases hj14
          refine TO.nil fun a w e s => ?_
          exact ⟨e.sub (lk_of_allIn ⟨rfl, rfl, rfl, rfl, rfl, rfl, trivial⟩), s⟩
      · intro a w ⟨he, hs⟩
        refine TC.use ?_ he hs
        refine TC.cond rfl (fun hc16 => ?_) (fun hc16 => ?_)
        · replace hj12 := cond_t hc16 hj12
          refine TC.region ?_
          refine TO.s rfl rfl rfl (StepS.assign rfl) ?_
          cases hj12
          refine TO.nil fun a w e s => ?_
          exact ⟨e.sub (lk_of_allIn ⟨rfl, rfl, rfl, rfl, rfl, trivial⟩), s⟩
        · replace hj12 := cond_f hc16 hj12
          cases hj12
          refine TC.skip fun a w e s => ?_
          exact ⟨e.sub (lk_of_allIn ⟨rfl, rfl, rfl, rfl, rfl, trivial⟩), s⟩
    · intro a w ⟨he, hs⟩
      refine TC.use ?_ he hs
      refine TC.k ?_
      refine TC.region ?_
      refine TO.s rfl rfl rfl (StepS.fld rfl kfieldB_106_0_0_true) ?_
      refine TO.s rfl rfl rfl (StepS.ldB rfl (Ent.at 1 rfl) kscalB_3_true rfl) ?_
      refine TO.s rfl rfl rfl (StepS.cmp rfl rfl rfl) ?_
      refine TO.s rfl rfl rfl (StepS.assign rfl) ?_
      refine TO.code ?_
      refine TC.k ?_
      refine TC.region ?_
      refine TO.s rfl rfl rfl (StepS.fld rfl kfieldB_106_0_0_true) ?_
      refine TO.s rfl rfl rfl (StepS.ldB rfl (Ent.at 1 rfl) kscalB_3_true rfl) ?_
      refine TO.s rfl rfl rfl (StepS.cmp rfl rfl rfl) ?_
      refine TO.s rfl rfl rfl (StepS.move rfl) ?_
      refine TO.mid1 2 41 (.bool ((a1.1 == 3) || (a1.1 == 6))) ?_ ?_
      · refine bcase ((a1.1 == 3)) (fun hb17 => ?_) (fun hb17 => ?_)
        · refine TO.skip rfl rfl rfl (skipT hb17) rfl rfl ?_
          refine TO.s rfl rfl rfl (StepS.pickT rfl hb17 rfl) ?_
          exact TO.up1 2 0 rfl rfl (by rw [hb17]; rfl) rfl
        · refine TO.sw rfl rfl rfl hb17 rfl rfl (StepS.move rfl) ?_
          refine TO.s rfl rfl rfl (StepS.pickF rfl hb17 rfl) ?_
          exact TO.up1 2 0 rfl rfl (by rw [hb17]; rfl) rfl
      refine TO.s rfl rfl rfl (StepS.assign rfl) ?_
      refine TO.code ?_
      refine TC.k ?_
      refine TC.block ?_
      refine TC.k ?_
      refine TC.region ?_
      refine TO.s rfl rfl rfl (StepS.move rfl) ?_
      refine TO.s rfl rfl rfl (StepS.move rfl) ?_
      obtain ⟨r18, hc19, hm⟩ := bind_some hm
      refine TO.q rfl rfl rfl (StepQ.callC kcallB_116_true rfl rfl rfl (fun _ st => C116 (Ent.at 0 rfl) hc19 st)) ?_
      refine TO.s rfl rfl rfl (StepS.not rfl) ?_
      refine TO.s rfl rfl rfl (StepS.move rfl) ?_
      refine TO.mid1 11 58 (.bool ((!r18) || (((a1.1 == 1) || (a1.1 == 6)) && (x11 == 0)))) ?_ ?_
      · refine bcase ((!r18)) (fun hb20 => ?_) (fun hb20 => ?_)
        · refine TO.skip rfl rfl rfl (skipT hb20) rfl rfl ?_
          refine TO.skip rfl rfl rfl (skipT hb20) rfl rfl ?_
          refine TO.skip rfl rfl rfl (skipT hb20) rfl rfl ?_
          refine TO.skip rfl rfl rfl (skipT hb20) rfl rfl ?_
          refine TO.skip rfl rfl rfl skipU rfl rfl ?_
          refine TO.skip rfl rfl rfl (skipT hb20) rfl rfl ?_
          refine TO.skip rfl rfl rfl (skipT hb20) rfl rfl ?_
          refine TO.skip rfl rfl rfl skipU rfl rfl ?_
          refine TO.skip rfl rfl rfl skipU rfl rfl ?_
          refine TO.skip rfl rfl rfl (skipT hb20) rfl rfl ?_
          refine TO.s rfl rfl rfl (StepS.pickT rfl hb20 rfl) ?_
          exact TO.up1 11 0 rfl rfl (by rw [hb20]; rfl) rfl
        · refine TO.sw rfl rfl rfl hb20 rfl rfl (StepS.fld rfl kfieldB_106_0_0_true) ?_
          refine TO.sw rfl rfl rfl hb20 rfl rfl (StepS.ldB rfl (Ent.at 1 rfl) kscalB_3_true rfl) ?_
          refine TO.sw rfl rfl rfl hb20 rfl rfl (StepS.cmp rfl rfl rfl) ?_
          refine TO.sw rfl rfl rfl hb20 rfl rfl (StepS.move rfl) ?_
          refine TO.mid1 2 53 (.bool ((a1.1 == 1) || (a1.1 == 6))) ?_ ?_
          · refine bcase ((a1.1 == 1)) (fun hb21 => ?_) (fun hb21 => ?_)
            · refine TO.skip rfl rfl rfl (skipT hb21) rfl rfl ?_
              refine TO.sw rfl rfl rfl hb20 rfl rfl (StepS.pickT rfl hb21 rfl) ?_
              exact TO.up1 2 0 rfl rfl (by rw [hb21]; rfl) rfl
            · refine TO.sw rfl rfl rfl hb21 rfl rfl (StepS.move rfl) ?_
              refine TO.sw rfl rfl rfl hb20 rfl rfl (StepS.pickF rfl hb21 rfl) ?_
              exact TO.up1 2 0 rfl rfl (by rw [hb21]; rfl) rfl
          refine TO.sw rfl rfl rfl hb20 rfl rfl (StepS.move rfl) ?_
          refine TO.mid1 3 57 (.bool (((a1.1 == 1) || (a1.1 == 6)) && (x11 == 0))) ?_ ?_
          · refine bcase (((a1.1 == 1) || (a1.1 == 6))) (fun hb22 => ?_) (fun hb22 => ?_)
            · refine TO.sw rfl rfl rfl hb22 rfl rfl (StepS.move rfl) ?_
              refine TO.sw rfl rfl rfl hb22 rfl rfl (StepS.cmp rfl rfl rfl) ?_
              refine TO.sw rfl rfl rfl hb20 rfl rfl (StepS.pickT rfl hb22 rfl) ?_
              exact TO.up1 3 0 rfl rfl (by rw [hb22]; rfl) rfl
            · refine TO.skip rfl rfl rfl (skipF hb22) rfl rfl ?_
              refine TO.skip rfl rfl rfl (skipF hb22) rfl rfl ?_
              refine TO.sw rfl rfl rfl hb20 rfl rfl (StepS.pickF rfl hb22 rfl) ?_
              exact TO.up1 3 0 rfl rfl (by rw [hb22]; rfl) rfl
          refine TO.s rfl rfl rfl (StepS.pickF rfl hb20 rfl) ?_
          exact TO.up1 8 0 rfl rfl (by rw [hb20]; rfl) rfl
      refine TO.s rfl rfl rfl (StepS.move rfl) ?_
      obtain ⟨b24, hj25, hm⟩ := bind_some hm
      refine TO.mid1 9 68 (.bool b24) ?_ ?_
      · refine bcase (((!r18) || (((a1.1 == 1) || (a1.1 == 6)) && (x11 == 0)))) (fun hb23 => ?_) (fun hb23 => ?_)
        · replace hj25 := cond_t hb23 hj25
          cases hj25
          refine TO.skip rfl rfl rfl (skipT hb23) rfl rfl ?_
          refine TO.skip rfl rfl rfl (skipT hb23) rfl rfl ?_
          refine TO.skip rfl rfl rfl skipU rfl rfl ?_
          refine TO.skip rfl rfl rfl skipU rfl rfl ?_
          refine TO.skip rfl rfl rfl skipU rfl rfl ?_
          refine TO.skip rfl rfl rfl skipU rfl rfl ?_
          refine TO.skip rfl rfl rfl skipU rfl rfl ?_
          refine TO.skip rfl rfl rfl (skipT hb23) rfl rfl ?_
          refine TO.s rfl rfl rfl (StepS.pickT rfl hb23 rfl) ?_
          exact TO.up1 9 0 rfl rfl rfl rfl
        · replace hj25 := cond_f hb23 hj25
          refine TO.sw rfl rfl rfl hb23 rfl rfl (StepS.move rfl) ?_
          refine TO.sw rfl rfl rfl hb23 rfl rfl (StepS.move rfl) ?_
          obtain ⟨b27, hj28, hj25⟩ := bind_some hj25
          refine TO.mid1 6 67 (.bool b27) ?_ ?_
          · refine bcase (((a1.1 == 3) || (a1.1 == 6))) (fun hb26 => ?_) (fun hb26 => ?_)
            · replace hj28 := cond_t hb26 hj28
              refine TO.sw rfl rfl rfl hb26 rfl rfl (StepS.move rfl) ?_
              refine TO.sw rfl rfl rfl hb26 rfl rfl (StepS.fld rfl kfieldB_106_2_2_true) ?_
              refine TO.sw rfl rfl rfl hb26 rfl rfl (StepS.ldB rfl (Ent.at 1 rfl) kscalB_3_true rfl) ?_
              obtain ⟨r29, hc30, hj28⟩ := bind_some hj28
              refine TO.qw rfl rfl rfl hb26 rfl rfl (StepQ.callC kcallB_117_true rfl rfl rfl (fun _ st => C117 (Ent.at 0 rfl) hc30 st)) ?_
              refine TO.sw rfl rfl rfl hb26 rfl rfl (StepS.not rfl) ?_
              cases hj28
              refine TO.sw rfl rfl rfl hb23 rfl rfl (StepS.pickT rfl hb26 rfl) ?_
              exact TO.up1 6 0 rfl rfl rfl rfl
            · replace hj28 := cond_f hb26 hj28
              cases hj28
              refine TO.skip rfl rfl rfl (skipF hb26) rfl rfl ?_
              refine TO.skip rfl rfl rfl (skipF hb26) rfl rfl ?_
              refine TO.skip rfl rfl rfl (skipF hb26) rfl rfl ?_
              refine TO.skip rfl rfl rfl (skipF hb26) rfl rfl ?_
              refine TO.skip rfl rfl rfl (skipF hb26) rfl rfl ?_
              refine TO.sw rfl rfl rfl hb23 rfl rfl (StepS.pickF rfl hb26 rfl) ?_
              exact TO.up1 6 0 rfl rfl rfl rfl
          cases hj25
          refine TO.s rfl rfl rfl (StepS.pickF rfl hb23 rfl) ?_
          exact TO.up1 4 0 rfl rfl rfl rfl
      refine TO.s rfl rfl rfl (StepS.move rfl) ?_
      refine TO.mid1 9 78 (.bool (b24 || ((a1.1 == 6) && (a1.2.1 == a1.2.2.1)))) ?_ ?_
      · refine bcase (b24) (fun hb31 => ?_) (fun hb31 => ?_)
        · refine TO.skip rfl rfl rfl (skipT hb31) rfl rfl ?_
          refine TO.skip rfl rfl rfl (skipT hb31) rfl rfl ?_
          refine TO.skip rfl rfl rfl skipU rfl rfl ?_
          refine TO.skip rfl rfl rfl skipU rfl rfl ?_
          refine TO.skip rfl rfl rfl skipU rfl rfl ?_
          refine TO.skip rfl rfl rfl skipU rfl rfl ?_
          refine TO.skip rfl rfl rfl skipU rfl rfl ?_
          refine TO.skip rfl rfl rfl (skipT hb31) rfl rfl ?_
          refine TO.s rfl rfl rfl (StepS.pickT rfl hb31 rfl) ?_
          exact TO.up1 9 0 rfl rfl (by rw [hb31]; rfl) rfl
        · refine TO.sw rfl rfl rfl hb31 rfl rfl (StepS.move rfl) ?_
          refine TO.sw rfl rfl rfl hb31 rfl rfl (StepS.move rfl) ?_
          refine TO.mid1 6 77 (.bool ((a1.1 == 6) && (a1.2.1 == a1.2.2.1))) ?_ ?_
          · refine bcase ((a1.1 == 6)) (fun hb32 => ?_) (fun hb32 => ?_)
            · refine TO.sw rfl rfl rfl hb32 rfl rfl (StepS.fld rfl kfieldB_106_1_1_true) ?_
              refine TO.sw rfl rfl rfl hb32 rfl rfl (StepS.ldB rfl (Ent.at 1 rfl) kscalB_3_true rfl) ?_
              refine TO.sw rfl rfl rfl hb32 rfl rfl (StepS.fld rfl kfieldB_106_2_2_true) ?_
              refine TO.sw rfl rfl rfl hb32 rfl rfl (StepS.ldB rfl (Ent.at 1 rfl) kscalB_3_true rfl) ?_
              refine TO.sw rfl rfl rfl hb32 rfl rfl (StepS.cmp rfl rfl rfl) ?_
              refine TO.sw rfl rfl rfl hb31 rfl rfl (StepS.pickT rfl hb32 rfl) ?_
              exact TO.up1 6 0 rfl rfl (by rw [hb32]; rfl) rfl
            · refine TO.skip rfl rfl rfl (skipF hb32) rfl rfl ?_
              refine TO.skip rfl rfl rfl (skipF hb32) rfl rfl ?_
              refine TO.skip rfl rfl rfl (skipF hb32) rfl rfl ?_
              refine TO.skip rfl rfl rfl (skipF hb32) rfl rfl ?_
              refine TO.skip rfl rfl rfl (skipF hb32) rfl rfl ?_
              refine TO.sw rfl rfl rfl hb31 rfl rfl (StepS.pickF rfl hb32 rfl) ?_
              exact TO.up1 6 0 rfl rfl (by rw [hb32]; rfl) rfl
          refine TO.s rfl rfl rfl (StepS.pickF rfl hb31 rfl) ?_
          exact TO.up1 4 0 rfl rfl (by rw [hb31]; rfl) rfl
      refine TO.s rfl rfl rfl (StepS.assign rfl) ?_
      refine TO.code ?_
      refine TC.cond rfl (fun hc33 => ?_) (fun hc33 => ?_)
      · replace hm := cond_t hc33 hm
        refine TC.k ?_
        refine TC.region ?_
        refine TO.s rfl rfl rfl (StepS.assign rfl) ?_
        refine TO.code ?_
        cases hm
        refine TC.ret fun a w e s => ?_
        refine FRet.mk1 (P := Try.prog) (fn := Try.f78) (t := 4) e rfl rfl ?_
        refine ⟨_, _, rfl, ⟨(h0_1), (h0_2), (h0_3), rfl, rfl⟩, ?_⟩
        refine s.mono fun _ s => ?_
        replace s := Sat.front 5 rfl s
        replace s := Sat.front 5 rfl s
        replace s := Sat.front 5 rfl s
        replace s := Sat.front 5 rfl s
        replace s := Sat.erase 4 s
        replace s := Sat.erase 4 s
        exact s
      · replace hm := cond_f hc33 hm
        refine TC.k ?_
        refine TC.region ?_
        refine TO.s rfl rfl rfl (StepS.fld rfl kfieldB_106_0_0_true) ?_
        refine TO.s rfl rfl rfl (StepS.ldB rfl (Ent.at 1 rfl) kscalB_3_true rfl) ?_
        refine TO.s rfl rfl rfl (StepS.cmp rfl rfl rfl) ?_
        refine TO.s rfl rfl rfl (StepS.assign rfl) ?_
        refine TO.code ?_
        refine TC.cond rfl (fun hc34 => ?_) (fun hc34 => ?_)
        · replace hm := cond_t hc34 hm
          refine TC.k ?_
          refine TC.region ?_
          refine TO.s rfl rfl rfl (StepS.move rfl) ?_
          refine TO.s rfl rfl rfl (StepS.move rfl) ?_
          refine TO.ghost (fun _ s => Sat.front 5 rfl s) ?_
          refine TO.ghost (fun _ s => Sat.front 5 rfl s) ?_
          refine TO.ghost (fun _ s => Sat.front 5 rfl s) ?_
          refine TO.ghost (fun _ s => Sat.front 5 rfl s) ?_
          obtain ⟨⟨r35, r36⟩, hc37, hm⟩ := bind_some hm
          refine TO.callO kcallB_118_true rfl rfl rfl (fun _ st => C118 (a0 := (a0.1, a0.2.1, a0.2.2))  hc37 st) ?_
          rintro _ _ ⟨v38, v40, v42, rfl, rfl⟩
          refine TO.s rfl rfl rfl (StepS.assign rfl) ?_
          refine TO.code ?_
          cases hm
          refine TC.ret fun a w e s => ?_
          refine FRet.mk1 (P := Try.prog) (fn := Try.f78) (t := 4) e rfl rfl ?_
          refine ⟨_, _, rfl, ⟨(v38), (v40), (v42), rfl, rfl⟩, ?_⟩
          refine s.mono fun _ s => ?_
          replace s := Sat.front 3 rfl s
          replace s := Sat.front 3 rfl s
          replace s := Sat.front 3 rfl s
          replace s := Sat.front 3 rfl s
          replace s := Sat.erase 4 s
          replace s := Sat.erase 4 s
          exact s
        · replace hm := cond_f hc34 hm
          refine TC.k ?_
          refine TC.region ?_
          refine TO.s rfl rfl rfl (StepS.fld rfl kfieldB_106_0_0_true) ?_
          refine TO.s rfl rfl rfl (StepS.ldB rfl (Ent.at 1 rfl) kscalB_3_true rfl) ?_
          refine TO.s rfl rfl rfl (StepS.cmp rfl rfl rfl) ?_
          refine TO.s rfl rfl rfl (StepS.assign rfl) ?_
          refine TO.code ?_
          refine TC.cond rfl (fun hc44 => ?_) (fun hc44 => ?_)
          · replace hm := cond_t hc44 hm
            refine TC.k ?_
            refine TC.k ?_
            refine TC.region ?_
            refine TO.s rfl rfl rfl (StepS.move rfl) ?_
            refine TO.s rfl rfl rfl (StepS.nilc rfl) ?_
            refine TO.s rfl rfl rfl (StepS.fld rfl kfieldB_197_1_1_true) ?_
            refine TO.s rfl rfl rfl (StepS.ldB rfl (Ent.at 2 rfl) kscalB_115_true rfl) ?_
            refine TO.s rfl rfl rfl (StepS.move rfl) ?_
            obtain ⟨x45, hx46, hm⟩ := bind_some hm
            refine TO.s rfl rfl rfl (StepS.idx rfl rfl (OwnS.rd (Ent.at 4 rfl)) ksliceB_115_4_1_true (idx_spec hx46).1 (idxm_lt hx46)) ?_
            refine TO.s rfl rfl rfl (StepS.ld0 rfl (OwnS.rd (Ent.at 4 rfl)) kscalB_4_true rfl (idxm hx46) rfl) ?_
            refine TO.code ?_
            refine TC.cond rfl (fun hc47 => ?_) (fun hc47 => ?_)
            · replace hm := cond_t hc47 hm
              refine TC.k ?_
              refine TC.region ?_
              refine TO.s rfl rfl rfl (StepS.assign rfl) ?_
              refine TO.code ?_
              cases hm
              refine TC.ret fun a w e s => ?_
              refine FRet.mk1 (P := Try.prog) (fn := Try.f78) (t := 4) e rfl rfl ?_
              refine ⟨_, _, rfl, ⟨(h0_1), (h0_2), (h0_3), rfl, rfl⟩, ?_⟩
              refine s.mono fun _ s => ?_
              replace s := Sat.front 5 rfl s
              replace s := Sat.front 5 rfl s
              replace s := Sat.front 5 rfl s
              replace s := Sat.front 5 rfl s
              replace s := Sat.erase 4 s
              replace s := Sat.erase 4 s
              exact s
            · replace hm := cond_f hc47 hm
              refine TC.skipk ?_
              refine TC.k ?_
              refine TC.region ?_
              refine TO.s rfl rfl rfl (StepS.move rfl) ?_
              refine TO.s rfl rfl rfl (StepS.nilc rfl) ?_
              refine TO.s rfl rfl rfl (StepS.fld rfl kfieldB_197_1_1_true) ?_
              refine TO.s rfl rfl rfl (StepS.ldB rfl (Ent.at 2 rfl) kscalB_115_true rfl) ?_
              refine TO.s rfl rfl rfl (StepS.move rfl) ?_
              obtain ⟨x48, hx49, hm⟩ := bind_some hm
              refine TO.s rfl rfl rfl (StepS.idx rfl rfl (OwnS.rd (Ent.at 4 rfl)) ksliceB_115_4_1_true (idx_spec hx49).1 (idxm_lt hx49)) ?_
              refine TO.stO (i := x11.toNat) (off := 0) (us := [.bool true]) 4 true rfl rfl rfl ksizeB_4_1_true rfl rfl rfl (idx_spec hx49).2 rfl (by simp [Value.oneCell']) rfl ?_
              refine TO.code ?_
              refine TC.k ?_
              refine TC.region ?_
              refine TO.s rfl rfl rfl (StepS.assign rfl) ?_
              refine TO.code ?_
              cases hm
              refine TC.ret fun a w e s => ?_
              refine FRet.mk1 (P := Try.prog) (fn := Try.f78) (t := 4) e rfl rfl ?_
              refine ⟨_, _, rfl, ⟨(h0_1), (h0_2), (h0_3), rfl, rfl⟩, ?_⟩
              refine s.mono fun _ s => ?_
              replace s := Sat.front 5 rfl s
              replace s := Sat.front 5 rfl s
              replace s := Sat.front 5 rfl s
              replace s := Sat.front 5 rfl s
              replace s := Sat.erase 4 s
              replace s := Sat.erase 4 s
              exact s
          · replace hm := cond_f hc44 hm
            refine TC.k ?_
            refine TC.region_still kfollows_mixedOrders_true (by kernel_rfl) ?_
            refine TS.s rfl rfl rfl (StepS.move rfl) ?_
            refine TS.s rfl rfl rfl (StepS.nilc rfl) ?_
            refine TS.s rfl rfl rfl (StepS.fld rfl kfieldB_197_1_1_true) ?_
            refine TS.s rfl rfl rfl (StepS.ldB rfl (Ent.at 2 rfl) kscalB_115_true rfl) ?_
            refine TS.s rfl rfl rfl (StepS.move rfl) ?_
            obtain ⟨x50, hx51, hm⟩ := bind_some hm
            refine TS.s rfl rfl rfl (StepS.idx rfl rfl (OwnS.rd (Ent.at 4 rfl)) ksliceB_115_4_1_true (idx_spec hx51).1 (idxm_lt hx51)) ?_
            refine TS.s rfl rfl rfl (StepS.ld0 rfl (OwnS.rd (Ent.at 4 rfl)) kscalB_4_true rfl (idxm hx51) rfl) ?_
            refine TS.s rfl rfl rfl (StepS.move rfl) ?_
            obtain ⟨b53, hj54, hm⟩ := bind_some hm
            refine TS.mid1 12 123 (.bool b53) ?_ ?_
            · refine bcase (x50) (fun hb52 => ?_) (fun hb52 => ?_)
              · replace hj54 := cond_t hb52 hj54
                cases hj54
                refine TS.skip rfl rfl rfl (skipT hb52) rfl rfl ?_
                refine TS.skip rfl rfl rfl (skipT hb52) rfl rfl ?_
                refine TS.skip rfl rfl rfl skipU rfl rfl ?_
                refine TS.skip rfl rfl rfl skipU rfl rfl ?_
                refine TS.skip rfl rfl rfl skipU rfl rfl ?_
                refine TS.skip rfl rfl rfl skipU rfl rfl ?_
                refine TS.skip rfl rfl rfl skipU rfl rfl ?_
                refine TS.skip rfl rfl rfl skipU rfl rfl ?_
                refine TS.skip rfl rfl rfl skipU rfl rfl ?_
                refine TS.skip rfl rfl rfl skipU rfl rfl ?_
                refine TS.skip rfl rfl rfl (skipT hb52) rfl rfl ?_
                refine TS.s rfl rfl rfl (StepS.pickT rfl hb52 rfl) ?_
                exact TS.up1 12 0 rfl rfl rfl rfl
              · replace hj54 := cond_f hb52 hj54
                refine TS.sw rfl rfl rfl hb52 rfl rfl (StepS.move rfl) ?_
                refine TS.sw rfl rfl rfl hb52 rfl rfl (StepS.move rfl) ?_
                obtain ⟨b56, hj57, hj54⟩ := bind_some hj54
                refine TS.mid1 9 122 (.bool b56) ?_ ?_
                · refine bcase (((a1.1 == 3) || (a1.1 == 6))) (fun hb55 => ?_) (fun hb55 => ?_)
                  · replace hj57 := cond_t hb55 hj57
                    refine TS.sw rfl rfl rfl hb55 rfl rfl (StepS.move rfl) ?_
                    refine TS.sw rfl rfl rfl hb55 rfl rfl (StepS.nilc rfl) ?_
                    refine TS.sw rfl rfl rfl hb55 rfl rfl (StepS.fld rfl kfieldB_197_1_1_true) ?_
                    refine TS.sw rfl rfl rfl hb55 rfl rfl (StepS.ldB rfl (Ent.at 2 rfl) kscalB_115_true rfl) ?_
                    refine TS.sw rfl rfl rfl hb55 rfl rfl (StepS.fld rfl kfieldB_106_2_2_true) ?_
                    refine TS.sw rfl rfl rfl hb55 rfl rfl (StepS.ldB rfl (Ent.at 1 rfl) kscalB_3_true rfl) ?_
                    obtain ⟨x58, hx59, hj57⟩ := bind_some hj57
                    refine TS.sw rfl rfl rfl hb55 rfl rfl (StepS.idx rfl rfl (OwnS.rd (Ent.at 4 rfl)) ksliceB_115_4_1_true (idx_spec hx59).1 (idxm_lt hx59)) ?_
                    refine TS.sw rfl rfl rfl hb55 rfl rfl (StepS.ld0 rfl (OwnS.rd (Ent.at 4 rfl)) kscalB_4_true rfl (idxm hx59) rfl) ?_
                    cases hj57
                    refine TS.sw rfl rfl rfl hb52 rfl rfl (StepS.pickT rfl hb55 rfl) ?_
                    exact TS.up1 9 0 rfl rfl rfl rfl
                  · replace hj57 := cond_f hb55 hj57
                    cases hj57
                    refine TS.skip rfl rfl rfl (skipF hb55) rfl rfl ?_
                    refine TS.skip rfl rfl rfl (skipF hb55) rfl rfl ?_
                    refine TS.skip rfl rfl rfl (skipF hb55) rfl rfl ?_
                    refine TS.skip rfl rfl rfl (skipF hb55) rfl rfl ?_
                    refine TS.skip rfl rfl rfl (skipF hb55) rfl rfl ?_
                    refine TS.skip rfl rfl rfl (skipF hb55) rfl rfl ?_
                    refine TS.skip rfl rfl rfl (skipF hb55) rfl rfl ?_
                    refine TS.skip rfl rfl rfl (skipF hb55) rfl rfl ?_
                    refine TS.sw rfl rfl rfl hb52 rfl rfl (StepS.pickF rfl hb55 rfl) ?_
                    exact TS.up1 9 0 rfl rfl rfl rfl
                cases hj54
                refine TS.s rfl rfl rfl (StepS.pickF rfl hb52 rfl) ?_
                exact TS.up1 4 0 rfl rfl rfl rfl
            refine TS.s rfl rfl rfl (StepS.assign rfl) ?_
            refine TS.code ?_
            refine TC.cond rfl (fun hc60 => ?_) (fun hc60 => ?_)
            · replace hm := cond_t hc60 hm
              refine TC.k ?_
              refine TC.region ?_
              refine TO.s rfl rfl rfl (StepS.assign rfl) ?_
              refine TO.code ?_
              cases hm
              refine TC.ret fun a w e s => ?_
              refine FRet.mk1 (P := Try.prog) (fn := Try.f78) (t := 4) e rfl rfl ?_
              refine ⟨_, _, rfl, ⟨(h0_1), (h0_2), (h0_3), rfl, rfl⟩, ?_⟩
              refine s.mono fun _ s => ?_
              replace s := Sat.front 5 rfl s
              replace s := Sat.front 5 rfl s
              replace s := Sat.front 5 rfl s
              replace s := Sat.front 5 rfl s
              replace s := Sat.erase 4 s
              replace s := Sat.erase 4 s
              exact s
            · replace hm := cond_f hc60 hm
              refine TC.skipk ?_
              refine TC.k ?_
              refine TC.k ?_
              refine TC.region ?_
              refine TO.s rfl rfl rfl (StepS.fld rfl kfieldB_106_0_0_true) ?_
              refine TO.s rfl rfl rfl (StepS.ldB rfl (Ent.at 1 rfl) kscalB_3_true rfl) ?_
              refine TO.code ?_
              refine TC.block ?_
              refine TC.k ?_
              refine TC.region ?_
              refine TO.s rfl rfl rfl (StepS.cmp rfl rfl rfl) ?_
              refine TO.s rfl rfl rfl (StepS.assign rfl) ?_
              refine TO.code ?_
              refine TC.cond rfl (fun hc61 => ?_) (fun hc61 => ?_)
              · replace hm := cond_t hc61 hm
                refine TC.k ?_
                refine TC.region ?_
                refine TO.s rfl rfl rfl (StepS.move rfl) ?_
                refine TO.s rfl rfl rfl (StepS.move rfl) ?_
                refine TO.s rfl rfl rfl (StepS.fld rfl kfieldB_106_3_3_true) ?_
                refine TO.s rfl rfl rfl (StepS.ldB rfl (Ent.at 1 rfl) kscalB_3_true rfl) ?_
                refine TO.ghost (fun _ s => Sat.front 5 rfl s) ?_
                refine TO.ghost (fun _ s => Sat.front 5 rfl s) ?_
                refine TO.ghost (fun _ s => Sat.front 5 rfl s) ?_
                refine TO.ghost (fun _ s => Sat.front 5 rfl s) ?_
                obtain ⟨⟨r62, r63⟩, hc64, hm⟩ := bind_some hm
                refine TO.callO kcallB_119_true rfl rfl rfl (fun _ st => C119 (a0 := (a0.1, a0.2.1, a0.2.2))  hc64 st) ?_
                rintro _ _ ⟨v65, v67, v69, rfl, rfl⟩
                refine TO.s rfl rfl rfl (StepS.assign rfl) ?_
                refine TO.code ?_
                cases hm
                refine TC.ret fun a w e s => ?_
                refine FRet.mk1 (P := Try.prog) (fn := Try.f78) (t := 4) e rfl rfl ?_
                refine ⟨_, _, rfl, ⟨(v65), (v67), (v69), rfl, rfl⟩, ?_⟩
                refine s.mono fun _ s => ?_
                replace s := Sat.front 3 rfl s
                replace s := Sat.front 3 rfl s
                replace s := Sat.front 3 rfl s
                replace s := Sat.front 3 rfl s
                replace s := Sat.erase 4 s
                replace s := Sat.erase 4 s
                exact s
              · replace hm := cond_f hc61 hm
                refine TC.k ?_
                refine TC.region ?_
                refine TO.s rfl rfl rfl (StepS.cmp rfl rfl rfl) ?_
                refine TO.s rfl rfl rfl (StepS.assign rfl) ?_
                refine TO.code ?_
                refine TC.cond rfl (fun hc71 => ?_) (fun hc71 => ?_)
                · replace hm := cond_t hc71 hm
                  refine TC.k ?_
                  refine TC.region ?_
                  refine TO.s rfl rfl rfl (StepS.move rfl) ?_
                  refine TO.ghost (fun _ s => Sat.front 5 rfl s) ?_
                  refine TO.ghost (fun _ s => Sat.front 5 rfl s) ?_
                  refine TO.ghost (fun _ s => Sat.front 5 rfl s) ?_
                  refine TO.ghost (fun _ s => Sat.front 5 rfl s) ?_
                  obtain ⟨⟨r72, r73⟩, hc74, hm⟩ := bind_some hm
                  refine TO.callO kcallB_120_true rfl rfl rfl (fun _ st => C120 (a0 := (a0.1, a0.2.1, a0.2.2))  hc74 st) ?_
                  rintro _ _ ⟨v75, v77, v79, rfl, rfl⟩
                  refine TO.s rfl rfl rfl (StepS.assign rfl) ?_
                  refine TO.code ?_
                  cases hm
                  refine TC.ret fun a w e s => ?_
                  refine FRet.mk1 (P := Try.prog) (fn := Try.f78) (t := 4) e rfl rfl ?_
                  refine ⟨_, _, rfl, ⟨(v75), (v77), (v79), rfl, rfl⟩, ?_⟩
                  refine s.mono fun _ s => ?_
                  replace s := Sat.front 3 rfl s
                  replace s := Sat.front 3 rfl s
                  replace s := Sat.front 3 rfl s
                  replace s := Sat.front 3 rfl s
                  replace s := Sat.erase 4 s
                  replace s := Sat.erase 4 s
                  exact s
                · replace hm := cond_f hc71 hm
                  refine TC.k ?_
                  refine TC.region ?_
                  refine TO.s rfl rfl rfl (StepS.cmp rfl rfl rfl) ?_
                  refine TO.s rfl rfl rfl (StepS.assign rfl) ?_
                  refine TO.code ?_
                  refine TC.cond rfl (fun hc81 => ?_) (fun hc81 => ?_)
                  · replace hm := cond_t hc81 hm
                    refine TC.k ?_
                    refine TC.region ?_
                    refine TO.s rfl rfl rfl (StepS.move rfl) ?_
                    refine TO.s rfl rfl rfl (StepS.fld rfl kfieldB_106_2_2_true) ?_
                    refine TO.s rfl rfl rfl (StepS.ldB rfl (Ent.at 1 rfl) kscalB_3_true rfl) ?_
                    refine TO.ghost (fun _ s => Sat.front 5 rfl s) ?_
                    refine TO.ghost (fun _ s => Sat.front 5 rfl s) ?_
                    refine TO.ghost (fun _ s => Sat.front 5 rfl s) ?_
                    refine TO.ghost (fun _ s => Sat.front 5 rfl s) ?_
                    obtain ⟨⟨r82, r83⟩, hc84, hm⟩ := bind_some hm
                    refine TO.callO kcallB_121_true rfl rfl rfl (fun _ st => C121 (a0 := (a0.1, a0.2.1, a0.2.2))  hc84 st) ?_
                    rintro _ _ ⟨v85, v87, v89, rfl, rfl⟩
                    refine TO.s rfl rfl rfl (StepS.assign rfl) ?_
                    refine TO.code ?_
                    cases hm
                    refine TC.ret fun a w e s => ?_
                    refine FRet.mk1 (P := Try.prog) (fn := Try.f78) (t := 4) e rfl rfl ?_
                    refine ⟨_, _, rfl, ⟨(v85), (v87), (v89), rfl, rfl⟩, ?_⟩
                    refine s.mono fun _ s => ?_
                    replace s := Sat.front 3 rfl s
                    replace s := Sat.front 3 rfl s
                    replace s := Sat.front 3 rfl s
                    replace s := Sat.front 3 rfl s
                    replace s := Sat.erase 4 s
                    replace s := Sat.erase 4 s
                    exact s
                  · replace hm := cond_f hc81 hm
                    refine TC.skipk ?_
                    refine TC.k ?_
                    refine TC.region ?_
                    refine TO.s rfl rfl rfl (StepS.move rfl) ?_
                    refine TO.s rfl rfl rfl (StepS.fld rfl kfieldB_106_1_1_true) ?_
                    refine TO.s rfl rfl rfl (StepS.ldB rfl (Ent.at 1 rfl) kscalB_3_true rfl) ?_
                    refine TO.s rfl rfl rfl (StepS.fld rfl kfieldB_106_2_2_true) ?_
                    refine TO.s rfl rfl rfl (StepS.ldB rfl (Ent.at 1 rfl) kscalB_3_true rfl) ?_
                    refine TO.ghost (fun _ s => Sat.front 5 rfl s) ?_
                    refine TO.ghost (fun _ s => Sat.front 5 rfl s) ?_
                    refine TO.ghost (fun _ s => Sat.front 5 rfl s) ?_
                    refine TO.ghost (fun _ s => Sat.front 5 rfl s) ?_
                    obtain ⟨⟨r91, r92⟩, hc93, hm⟩ := bind_some hm
                    refine TO.callO kcallB_122_true rfl rfl rfl (fun _ st => C122 (a0 := (a0.1, a0.2.1, a0.2.2))  hc93 st) ?_
                    rintro _ _ ⟨v94, v96, v98, rfl, rfl⟩
                    refine TO.s rfl rfl rfl (StepS.assign rfl) ?_
                    refine TO.code ?_
                    cases hm
                    refine TC.ret fun a w e s => ?_
                    refine FRet.mk1 (P := Try.prog) (fn := Try.f78) (t := 4) e rfl rfl ?_
                    refine ⟨_, _, rfl, ⟨(v94), (v96), (v98), rfl, rfl⟩, ?_⟩
                    refine s.mono fun _ s => ?_
                    replace s := Sat.front 3 rfl s
                    replace s := Sat.front 3 rfl s
                    replace s := Sat.front 3 rfl s
                    replace s := Sat.front 3 rfl s
                    replace s := Sat.erase 4 s
                    replace s := Sat.erase 4 s
                    exact s

set_option maxRecDepth 100000 in
theorem C44 {B : World} {L : List HP} {a0 : Int} {a1 : List (Int × Int × Int × Int)} {h1 : Value} {r0 : (List Int) × List Int} {r1 : Int} (e1 : Ent L (Rd 4 h1 (a1.map cTiiii))) (hm : F44 a0 a1 = some (r0, r1)) {w : World} (st : St B L w) : Calls Try.prog 44 #[I a0, h1] w (fun e w' => ∃ v M, e = .returned v ∧ (∃ (qv1 : Value) (qv2 : Value), v = .tuple #[.agg #[qv1, qv2], I r1] ∧ M = (OwnS 28 1 qv1 (r0.1.map cI) :: OwnS 3 1 qv2 (r0.2.map cI) :: L)) ∧ St B M w') := by
  refine calls_of (N := 49) (L := L) (args := [I a0, h1]) Try.func44 rfl rfl rfl ?_ st
  dsimp only [F44] at hm
  refine TC.k ?_
  refine TC.region ?_
  refine TO.alloc kinfo_93_bind_zero_some_agg_slice_none_0_0_slice_none_0_0 rfl rfl fun b3 => ?_
  refine TO.s rfl rfl rfl (StepS.assign rfl) ?_
  refine TO.code ?_
  refine TC.k ?_
  refine TC.k ?_
  refine TC.region ?_
  refine TO.s rfl rfl rfl (StepS.move rfl) ?_
  refine TO.s rfl rfl rfl (StepS.cmp rfl rfl rfl) ?_
  refine TO.s rfl rfl rfl (StepS.move rfl) ?_
  refine TO.mid1 3 15 (.bool ((decide (a0 < 1)) || (decide (a0 > 6)))) ?_ ?_
  · refine bcase ((decide (a0 < 1))) (fun hb4 => ?_) (fun hb4 => ?_)
    · refine TO.skip rfl rfl rfl (skipT hb4) rfl rfl ?_
      refine TO.skip rfl rfl rfl (skipT hb4) rfl rfl ?_
      refine TO.s rfl rfl rfl (StepS.pickT rfl hb4 rfl) ?_
      exact TO.up1 3 0 rfl rfl (by rw [hb4]; rfl) rfl
    · refine TO.sw rfl rfl rfl hb4 rfl rfl (StepS.move rfl) ?_
      refine TO.sw rfl rfl rfl hb4 rfl rfl (StepS.cmp rfl rfl rfl) ?_
      refine TO.s rfl rfl rfl (StepS.pickF rfl hb4 rfl) ?_
      exact TO.up1 3 0 rfl rfl (by rw [hb4]; rfl) rfl
  refine TO.s rfl rfl rfl (StepS.move rfl) ?_
  refine TO.mid1 4 20 (.bool (((decide (a0 < 1)) || (decide (a0 > 6))) || (decide ((a1.length : Int) > 60)))) ?_ ?_
  · refine bcase (((decide (a0 < 1)) || (decide (a0 > 6)))) (fun hb5 => ?_) (fun hb5 => ?_)
    · refine TO.skip rfl rfl rfl (skipT hb5) rfl rfl ?_
      refine TO.skip rfl rfl rfl (skipT hb5) rfl rfl ?_
      refine TO.skip rfl rfl rfl (skipT hb5) rfl rfl ?_
      refine TO.s rfl rfl rfl (StepS.pickT rfl hb5 rfl) ?_
      exact TO.up1 4 0 rfl rfl (by rw [hb5]; rfl) rfl
    · refine TO.sw rfl rfl rfl hb5 rfl rfl (StepS.move rfl) ?_
      refine TO.sw rfl rfl rfl hb5 rfl rfl (StepS.lenm rfl e1.tl ksliceB_23_106_4_true rfl) ?_
      refine TO.sw rfl rfl rfl hb5 rfl rfl (StepS.cmp rfl rfl rfl) ?_
      refine TO.s rfl rfl rfl (StepS.pickF rfl hb5 rfl) ?_
      exact TO.up1 4 0 rfl rfl (by rw [hb5]; rfl) rfl
  refine TO.code ?_
  refine TC.cond rfl (fun hc6 => ?_) (fun hc6 => ?_)
  · replace hm := cond_t hc6 hm
    refine TC.k ?_
    refine TC.region ?_
    refine TO.s rfl rfl rfl (StepS.build (cs := [.slice none 0 0, .slice none 0 0]) rfl (by kernel_rfl)) ?_
    refine TO.stB (us := [.slice none 0 0, .slice none 0 0]) 0 [.slice none 0 0, .slice none 0 0] rfl rfl rfl ksizeB_93_2_true rfl rfl rfl (by simp [Value.oneCell']) rfl ?_
    refine TO.s rfl rfl rfl (StepS.assign rfl) ?_
    refine TO.code ?_
    cases hm
    refine TC.ret fun a w e s => ?_
    refine FRet.cell2 (P := Try.prog) (fn := Try.f44) e s rfl rfl rfl (Ent.at 0 rfl) kaggB_93_2_true rfl ?_
    refine ⟨_, _, rfl, ⟨(.slice none 0 0), (.slice none 0 0), rfl, rfl⟩, ?_⟩
    refine s.mono fun _ s => ?_
    replace s := Sat.nilS (e := 3) (sz := 1) (f := cI) s
    replace s := Sat.nilS (e := 28) (sz := 1) (f := cI) s
    replace s := Sat.erase 2 s
    exact s
  · replace hm := cond_f hc6 hm
    refine TC.skipk ?_
    refine TC.k ?_
    obtain ⟨⟨y10, y13, y16⟩, hj17, hm⟩ := bind_some hm
    first | refine TC.cutM (fun a w => ∃ v8 : Value, ∃ v11 : Value, ∃ v14 : Value, ∃ bq7_7_1 : Nat, Mid 49 B [(1, h1), (4, .pointer (some ⟨b3, 0, none⟩)), (6, .pointer (some ⟨bq7_7_1, 0, none⟩))] (OwnS 3 1 v8 (y10.map cI) :: OwnS 4 1 v11 (y13.map cB) :: OwnS 4 1 v14 (y16.map cB) :: Bx bq7_7_1 197 [v8, v11, v14] :: Bx b3 93 [.slice none 0 0, .slice none 0 0] :: L) a w) ?_ ?_ | refine TC.cutX (fun a w => ∃ v8 : Value, ∃ v11 : Value, ∃ v14 : Value, ∃ bq7_7_1 : Nat, Mid 49 B [(1, h1), (4, .pointer (some ⟨b3, 0, none⟩)), (6, .pointer (some ⟨bq7_7_1, 0, none⟩))] (OwnS 3 1 v8 (y10.map cI) :: OwnS 4 1 v11 (y13.map cB) :: OwnS 4 1 v14 (y16.map cB) :: Bx bq7_7_1 197 [v8, v11, v14] :: Bx b3 93 [.slice none 0 0, .slice none 0 0] :: L) a w) ?_ ?_
    · obtain ⟨yq7_1_1, hkq7_1_2, hj17⟩ := bind_some hj17
      obtain ⟨yq7_3_1, hkq7_3_2, hj17⟩ := bind_some hj17
      obtain ⟨yq7_5_1, hkq7_5_2, hj17⟩ := bind_some hj17
      refine TC.region_any (Bx b3 93 [.slice none 0 0, .slice none 0 0] :: L) 9 9 kfollows_mixedOrders_true rfl ?_
      refine TA.takeW 0 rfl rfl rfl rfl (StepS.move rfl) (by kernel_rfl) (by kernel_rfl) (by kernel_rfl) rfl (.inr (fun _ s => s)) ?_
      refine TA.takeW 2 rfl rfl rfl rfl (StepS.move rfl) (by kernel_rfl) (by kernel_rfl) (by kernel_rfl) rfl (.inr (fun _ s => s)) ?_
      refine TA.takeW 4 rfl rfl rfl rfl (StepS.move rfl) (by kernel_rfl) (by kernel_rfl) (by kernel_rfl) rfl (.inr (fun _ s => s)) ?_
      refine TA.all3 (i := 1) (j := 3) (k := 5) (by kernel_rfl) ?_ ?_ ?_
      · refine TB.of rfl ?_
        refine TO.mkS (f := cI) (za := 0) kelemB_22_3_1_8_true kinfo_3_bind_zero_some_I_0 rfl (by decide) rfl rfl hkq7_1_2 rfl fun vq7_1_3 => ?_
        refine TA.back (.inr (fun _ s => by replace s := Sat.front 1 rfl s; replace s := Sat.erase 1 s; exact s)) ?_
        refine TA.all2 (i := 3) (j := 5) (by kernel_rfl) ?_ ?_
        · refine TB.of rfl ?_
          refine TO.mkS (f := cB) (za := false) kelemB_115_4_1_1_true kinfo_4_bind_zero_some_bool_false rfl (by decide) rfl rfl hkq7_3_2 rfl fun vq7_3_3 => ?_
          refine TA.back (.inr (fun _ s => by replace s := Sat.front 2 rfl s; replace s := Sat.erase 1 s; replace s := Sat.erase 1 s; exact s)) ?_
          refine TA.all1 (i := 5) (by kernel_rfl) ?_
          refine TB.of rfl ?_
          refine TO.mkS (f := cB) (za := false) kelemB_115_4_1_1_true kinfo_4_bind_zero_some_bool_false rfl (by decide) rfl rfl hkq7_5_2 rfl fun vq7_5_3 => ?_
          refine TA.back (.inr (fun _ s => by replace s := Sat.front 3 rfl s; replace s := Sat.erase 1 s; replace s := Sat.erase 1 s; replace s := Sat.erase 1 s; exact s)) ?_
          refine TA.all1 (i := 6) (by kernel_rfl) ?_
          refine TB.of rfl ?_
          refine TO.pure (fun _ s => Rd.one (OwnS.rd (Ent.at 2 rfl)) s) fun ocq7_6_1 => ?_
          refine TO.pure (fun _ s => Rd.one (OwnS.rd (Ent.at 1 rfl)) s) fun ocq7_6_2 => ?_
          refine TO.pure (fun _ s => Rd.one (OwnS.rd (Ent.at 0 rfl)) s) fun ocq7_6_3 => ?_
          refine TO.s rfl rfl rfl (StepS.buildS (us := [(0, .agg #[vq7_1_3]), (1, .agg #[vq7_3_3]), (2, .agg #[vq7_5_3])]) (cs := [vq7_1_3, vq7_3_3, vq7_5_3]) rfl (by simp only [List.map_cons, List.map_nil, ocq7_6_1.2, ocq7_6_2.2, ocq7_6_3.2]; rfl) (by kernel_rfl)) ?_
          refine TA.back (.inr (fun _ s => by replace s := Sat.front 3 rfl s; replace s := Sat.erase 1 s; replace s := Sat.erase 1 s; replace s := Sat.erase 1 s; exact s)) ?_
          refine TA.all1 (i := 7) (by kernel_rfl) ?_
          refine TB.of rfl ?_
          refine TO.box (cs := [vq7_1_3, vq7_3_3, vq7_5_3]) rfl rfl rfl fun bq7_7_1 => ?_
          refine TA.back (.inr (fun _ s => by replace s := Sat.front 4 rfl s; replace s := Sat.erase 1 s; replace s := Sat.erase 1 s; replace s := Sat.erase 1 s; replace s := Sat.erase 1 s; exact s)) ?_
          refine TA.takeW 8 rfl rfl rfl rfl (StepS.assign rfl) (by kernel_rfl) (by kernel_rfl) (by kernel_rfl) rfl (.inr (fun _ s => by replace s := Sat.front 4 rfl s; replace s := Sat.erase 1 s; replace s := Sat.erase 1 s; replace s := Sat.erase 1 s; replace s := Sat.erase 1 s; exact s)) ?_
          cases hj17
          refine TA.nil (by kernel_rfl) fun a w e s => ?_
          exact ⟨vq7_1_3, vq7_3_3, vq7_5_3, bq7_7_1, e.sub (lk_of_allIn ⟨rfl, rfl, rfl, trivial⟩), s.mono fun _ s => (by replace s := Sat.front 4 rfl s; replace s := Sat.front 1 rfl s; replace s := Sat.front 2 rfl s; replace s := Sat.front 3 rfl s; replace s := Sat.front 4 rfl s; exact s)⟩
        · refine TB.of rfl ?_
          refine TO.mkS (f := cB) (za := false) kelemB_115_4_1_1_true kinfo_4_bind_zero_some_bool_false rfl (by decide) rfl rfl hkq7_5_2 rfl fun vq7_5_3 => ?_
          refine TA.back (.inr (fun _ s => by replace s := Sat.front 2 rfl s; replace s := Sat.erase 1 s; replace s := Sat.erase 1 s; exact s)) ?_
          refine TA.all1 (i := 3) (by kernel_rfl) ?_
          refine TB.of rfl ?_
          refine TO.mkS (f := cB) (za := false) kelemB_115_4_1_1_true kinfo_4_bind_zero_some_bool_false rfl (by decide) rfl rfl hkq7_3_2 rfl fun vq7_3_3 => ?_
          refine TA.back (.inr (fun _ s => by replace s := Sat.front 3 rfl s; replace s := Sat.erase 1 s; replace s := Sat.erase 1 s; replace s := Sat.erase 1 s; exact s)) ?_
          refine TA.all1 (i := 6) (by kernel_rfl) ?_
          refine TB.of rfl ?_
          refine TO.pure (fun _ s => Rd.one (OwnS.rd (Ent.at 2 rfl)) s) fun ocq7_6_1 => ?_
          refine TO.pure (fun _ s => Rd.one (OwnS.rd (Ent.at 0 rfl)) s) fun ocq7_6_2 => ?_
          refine TO.pure (fun _ s => Rd.one (OwnS.rd (Ent.at 1 rfl)) s) fun ocq7_6_3 => ?_
          refine TO.s rfl rfl rfl (StepS.buildS (us := [(0, .agg #[vq7_1_3]), (1, .agg #[vq7_3_3]), (2, .agg #[vq7_5_3])]) (cs := [vq7_1_3, vq7_3_3, vq7_5_3]) rfl (by simp only [List.map_cons, List.map_nil, ocq7_6_1.2, ocq7_6_2.2, ocq7_6_3.2]; rfl) (by kernel_rfl)) ?_
          refine TA.back (.inr (fun _ s => by replace s := Sat.front 3 rfl s; replace s := Sat.erase 1 s; replace s := Sat.erase 1 s; replace s := Sat.erase 1 s; exact s)) ?_
          refine TA.all1 (i := 7) (by kernel_rfl) ?_
          refine TB.of rfl ?_
          refine TO.box (cs := [vq7_1_3, vq7_3_3, vq7_5_3]) rfl rfl rfl fun bq7_7_1 => ?_
          refine TA.back (.inr (fun _ s => by replace s := Sat.front 4 rfl s; replace s := Sat.erase 1 s; replace s := Sat.erase 1 s; replace s := Sat.erase 1 s; replace s := Sat.erase 1 s; exact s)) ?_
          refine TA.takeW 8 rfl rfl rfl rfl (StepS.assign rfl) (by kernel_rfl) (by kernel_rfl) (by kernel_rfl) rfl (.inr (fun _ s => by replace s := Sat.front 4 rfl s; replace s := Sat.erase 1 s; replace s := Sat.erase 1 s; replace s := Sat.erase 1 s; replace s := Sat.erase 1 s; exact s)) ?_
          cases hj17
          refine TA.nil (by kernel_rfl) fun a w e s => ?_
          exact ⟨vq7_1_3, vq7_3_3, vq7_5_3, bq7_7_1, e.sub (lk_of_allIn ⟨rfl, rfl, rfl, trivial⟩), s.mono fun _ s => (by replace s := Sat.front 4 rfl s; replace s := Sat.front 1 rfl s; replace s := Sat.front 3 rfl s; replace s := Sat.front 3 rfl s; replace s := Sat.front 4 rfl s; exact s)⟩
      · refine TB.of rfl ?_
        refine TO.mkS (f := cB) (za := false) kelemB_115_4_1_1_true kinfo_4_bind_zero_some_bool_false rfl (by decide) rfl rfl hkq7_3_2 rfl fun vq7_3_3 => ?_
        refine TA.back (.inr (fun _ s => by replace s := Sat.front 1 rfl s; replace s := Sat.erase 1 s; exact s)) ?_
        refine TA.all2 (i := 1) (j := 5) (by kernel_rfl) ?_ ?_
        · refine TB.of rfl ?_
          refine TO.mkS (f := cI) (za := 0) kelemB_22_3_1_8_true kinfo_3_bind_zero_some_I_0 rfl (by decide) rfl rfl hkq7_1_2 rfl fun vq7_1_3 => ?_
          refine TA.back (.inr (fun _ s => by replace s := Sat.front 2 rfl s; replace s := Sat.erase 1 s; replace s := Sat.erase 1 s; exact s)) ?_
          refine TA.all1 (i := 5) (by kernel_rfl) ?_
          refine TB.of rfl ?_
          refine TO.mkS (f := cB) (za := false) kelemB_115_4_1_1_true kinfo_4_bind_zero_some_bool_false rfl (by decide) rfl rfl hkq7_5_2 rfl fun vq7_5_3 => ?_
          refine TA.back (.inr (fun _ s => by replace s := Sat.front 3 rfl s; replace s := Sat.erase 1 s; replace s := Sat.erase 1 s; replace s := Sat.erase 1 s; exact s)) ?_
          refine TA.all1 (i := 6) (by kernel_rfl) ?_
          refine TB.of rfl ?_
          refine TO.pure (fun _ s => Rd.one (OwnS.rd (Ent.at 1 rfl)) s) fun ocq7_6_1 => ?_
          refine TO.pure (fun _ s => Rd.one (OwnS.rd (Ent.at 2 rfl)) s) fun ocq7_6_2 => ?_
          refine TO.pure (fun _ s => Rd.one (OwnS.rd (Ent.at 0 rfl)) s) fun ocq7_6_3 => ?_
          refine TO.s rfl rfl rfl (StepS.buildS (us := [(0, .agg #[vq7_1_3]), (1, .agg #[vq7_3_3]), (2, .agg #[vq7_5_3])]) (cs := [vq7_1_3, vq7_3_3, vq7_5_3]) rfl (by simp only [List.map_cons, List.map_nil, ocq7_6_1.2, ocq7_6_2.2, ocq7_6_3.2]; rfl) (by kernel_rfl)) ?_
          refine TA.back (.inr (fun _ s => by replace s := Sat.front 3 rfl s; replace s := Sat.erase 1 s; replace s := Sat.erase 1 s; replace s := Sat.erase 1 s; exact s)) ?_
          refine TA.all1 (i := 7) (by kernel_rfl) ?_
          refine TB.of rfl ?_
          refine TO.box (cs := [vq7_1_3, vq7_3_3, vq7_5_3]) rfl rfl rfl fun bq7_7_1 => ?_
          refine TA.back (.inr (fun _ s => by replace s := Sat.front 4 rfl s; replace s := Sat.erase 1 s; replace s := Sat.erase 1 s; replace s := Sat.erase 1 s; replace s := Sat.erase 1 s; exact s)) ?_
          refine TA.takeW 8 rfl rfl rfl rfl (StepS.assign rfl) (by kernel_rfl) (by kernel_rfl) (by kernel_rfl) rfl (.inr (fun _ s => by replace s := Sat.front 4 rfl s; replace s := Sat.erase 1 s; replace s := Sat.erase 1 s; replace s := Sat.erase 1 s; replace s := Sat.erase 1 s; exact s)) ?_
          cases hj17
          refine TA.nil (by kernel_rfl) fun a w e s => ?_
          exact ⟨vq7_1_3, vq7_3_3, vq7_5_3, bq7_7_1, e.sub (lk_of_allIn ⟨rfl, rfl, rfl, trivial⟩), s.mono fun _ s => (by replace s := Sat.front 4 rfl s; replace s := Sat.front 1 rfl s; replace s := Sat.front 2 rfl s; replace s := Sat.front 4 rfl s; replace s := Sat.front 4 rfl s; exact s)⟩
        · refine TB.of rfl ?_
          refine TO.mkS (f := cB) (za := false) kelemB_115_4_1_1_true kinfo_4_bind_zero_some_bool_false rfl (by decide) rfl rfl hkq7_5_2 rfl fun vq7_5_3 => ?_
          refine TA.back (.inr (fun _ s => by replace s := Sat.front 2 rfl s; replace s := Sat.erase 1 s; replace s := Sat.erase 1 s; exact s)) ?_
          refine TA.all1 (i := 1) (by kernel_rfl) ?_
          refine TB.of rfl ?_
          refine TO.mkS (f := cI) (za := 0) kelemB_22_3_1_8_true kinfo_3_bind_zero_some_I_0 rfl (by decide) rfl rfl hkq7_1_2 rfl fun vq7_1_3 => ?_
          refine TA.back (.inr (fun _ s => by replace s := Sat.front 3 rfl s; replace s := Sat.erase 1 s; replace s := Sat.erase 1 s; replace s := Sat.erase 1 s; exact s)) ?_
          refine TA.all1 (i := 6) (by kernel_rfl) ?_
          refine TB.of rfl ?_
          refine TO.pure (fun _ s => Rd.one (OwnS.rd (Ent.at 0 rfl)) s) fun ocq7_6_1 => ?_
          refine TO.pure (fun _ s => Rd.one (OwnS.rd (Ent.at 2 rfl)) s) fun ocq7_6_2 => ?_
          refine TO.pure (fun _ s => Rd.one (OwnS.rd (Ent.at 1 rfl)) s) fun ocq7_6_3 => ?_
          refine TO.s rfl rfl rfl (StepS.buildS (us := [(0, .agg #[vq7_1_3]), (1, .agg #[vq7_3_3]), (2, .agg #[vq7_5_3])]) (cs := [vq7_1_3, vq7_3_3, vq7_5_3]) rfl (by simp only [List.map_cons, List.map_nil, ocq7_6_1.2, ocq7_6_2.2, ocq7_6_3.2]; rfl) (by kernel_rfl)) ?_
          refine TA.back (.inr (fun _ s => by replace s := Sat.front 3 rfl s; replace s := Sat.erase 1 s; replace s := Sat.erase 1 s; replace s := Sat.erase 1 s; exact s)) ?_
          refine TA.all1 (i := 7) (by kernel_rfl) ?_
          refine TB.of rfl ?_
          refine TO.box (cs := [vq7_1_3, vq7_3_3, vq7_5_3]) rfl rfl rfl fun bq7_7_1 => ?_
          refine TA.back (.inr (fun _ s => by replace s := Sat.front 4 rfl s; replace s := Sat.erase 1 s; replace s := Sat.erase 1 s; replace s := Sat.erase 1 s; replace s := Sat.erase 1 s; exact s)) ?_
          refine TA.takeW 8 rfl rfl rfl rfl (StepS.assign rfl) (by kernel_rfl) (by kernel_rfl) (by kernel_rfl) rfl (.inr (fun _ s => by replace s := Sat.front 4 rfl s; replace s := Sat.erase 1 s; replace s := Sat.erase 1 s; replace s := Sat.erase 1 s; replace s := Sat.erase 1 s; exact s)) ?_
          cases hj17
          refine TA.nil (by kernel_rfl) fun a w e s => ?_
          exact ⟨vq7_1_3, vq7_3_3, vq7_5_3, bq7_7_1, e.sub (lk_of_allIn ⟨rfl, rfl, rfl, trivial⟩), s.mono fun _ s => (by replace s := Sat.front 4 rfl s; replace s := Sat.front 1 rfl s; replace s := Sat.front 3 rfl s; replace s := Sat.front 4 rfl s; replace s := Sat.front 4 rfl s; exact s)⟩
      · refine TB.of rfl ?_
        refine TO.mkS (f := cB) (za := false) kelemB_115_4_1_1_true kinfo_4_bind_zero_some_bool_false rfl (by decide) rfl rfl hkq7_5_2 rfl fun vq7_5_3 => ?_
        refine TA.back (.inr (fun _ s => by replace s := Sat.front 1 rfl s; replace s := Sat.erase 1 s; exact s)) ?_
        refine TA.all2 (i := 1) (j := 3) (by kernel_rfl) ?_ ?_
        · refine TB.of rfl ?_
          refine TO.mkS (f := cI) (za := 0) kelemB_22_3_1_8_true kinfo_3_bind_zero_some_I_0 rfl (by decide) rfl rfl hkq7_1_2 rfl fun vq7_1_3 => ?_
          refine TA.back (.inr (fun _ s => by replace s := Sat.front 2 rfl s; replace s := Sat.erase 1 s; replace s := Sat.erase 1 s; exact s)) ?_
          refine TA.all1 (i := 3) (by kernel_rfl) ?_
          refine TB.of rfl ?_
          refine TO.mkS (f := cB) (za := false) kelemB_115_4_1_1_true kinfo_4_bind_zero_some_bool_false rfl (by decide) rfl rfl hkq7_3_2 rfl fun vq7_3_3 => ?_
          refine TA.back (.inr (fun _ s => by replace s := Sat.front 3 rfl s; replace s := Sat.erase 1 s; replace s := Sat.erase 1 s; replace s := Sat.erase 1 s; exact s)) ?_
          refine TA.all1 (i := 6) (by kernel_rfl) ?_
          refine TB.of rfl ?_
          refine TO.pure (fun _ s => Rd.one (OwnS.rd (Ent.at 1 rfl)) s) fun ocq7_6_1 => ?_
          refine TO.pure (fun _ s => Rd.one (OwnS.rd (Ent.at 0 rfl)) s) fun ocq7_6_2 => ?_
          refine TO.pure (fun _ s => Rd.one (OwnS.rd (Ent.at 2 rfl)) s) fun ocq7_6_3 => ?_
          refine TO.s rfl rfl rfl (StepS.buildS (us := [(0, .agg #[vq7_1_3]), (1, .agg #[vq7_3_3]), (2, .agg #[vq7_5_3])]) (cs := [vq7_1_3, vq7_3_3, vq7_5_3]) rfl (by simp only [List.map_cons, List.map_nil, ocq7_6_1.2, ocq7_6_2.2, ocq7_6_3.2]; rfl) (by kernel_rfl)) ?_
          refine TA.back (.inr (fun _ s => by replace s := Sat.front 3 rfl s; replace s := Sat.erase 1 s; replace s := Sat.erase 1 s; replace s := Sat.erase 1 s; exact s)) ?_
          refine TA.all1 (i := 7) (by kernel_rfl) ?_
          refine TB.of rfl ?_
          refine TO.box (cs := [vq7_1_3, vq7_3_3, vq7_5_3]) rfl rfl rfl fun bq7_7_1 => ?_
          refine TA.back (.inr (fun _ s => by replace s := Sat.front 4 rfl s; replace s := Sat.erase 1 s; replace s := Sat.erase 1 s; replace s := Sat.erase 1 s; replace s := Sat.erase 1 s; exact s)) ?_
          refine TA.takeW 8 rfl rfl rfl rfl (StepS.assign rfl) (by kernel_rfl) (by kernel_rfl) (by kernel_rfl) rfl (.inr (fun _ s => by replace s := Sat.front 4 rfl s; replace s := Sat.erase 1 s; replace s := Sat.erase 1 s; replace s := Sat.erase 1 s; replace s := Sat.erase 1 s; exact s)) ?_
          cases hj17
          refine TA.nil (by kernel_rfl) fun a w e s => ?_
          exact ⟨vq7_1_3, vq7_3_3, vq7_5_3, bq7_7_1, e.sub (lk_of_allIn ⟨rfl, rfl, rfl, trivial⟩), s.mono fun _ s => (by replace s := Sat.front 4 rfl s; replace s := Sat.front 1 rfl s; replace s := Sat.front 4 rfl s; replace s := Sat.front 3 rfl s; replace s := Sat.front 4 rfl s; exact s)⟩
        · refine TB.of rfl ?_
          refine TO.mkS (f := cB) (za := false) kelemB_115_4_1_1_true kinfo_4_bind_zero_some_bool_false rfl (by decide) rfl rfl hkq7_3_2 rfl fun vq7_3_3 => ?_
          refine TA.back (.inr (fun _ s => by replace s := Sat.front 2 rfl s; replace s := Sat.erase 1 s; replace s := Sat.erase 1 s; exact s)) ?_
          refine TA.all1 (i := 1) (by kernel_rfl) ?_
          refine TB.of rfl ?_
          refine TO.mkS (f := cI) (za := 0) kelemB_22_3_1_8_true kinfo_3_bind_zero_some_I_0 rfl (by decide) rfl rfl hkq7_1_2 rfl fun vq7_1_3 => ?_
          refine TA.back (.inr (fun _ s => by replace s := Sat.front 3 rfl s; replace s := Sat.erase 1 s; replace s := Sat.erase 1 s; replace s := Sat.erase 1 s; exact s)) ?_
          refine TA.all1 (i := 6) (by kernel_rfl) ?_
          refine TB.of rfl ?_
          refine TO.pure (fun _ s => Rd.one (OwnS.rd (Ent.at 0 rfl)) s) fun ocq7_6_1 => ?_
          refine TO.pure (fun _ s => Rd.one (OwnS.rd (Ent.at 1 rfl)) s) fun ocq7_6_2 => ?_
          refine TO.pure (fun _ s => Rd.one (OwnS.rd (Ent.at 2 rfl)) s) fun ocq7_6_3 => ?_
          refine TO.s rfl rfl rfl (StepS.buildS (us := [(0, .agg #[vq7_1_3]), (1, .agg #[vq7_3_3]), (2, .agg #[vq7_5_3])]) (cs := [vq7_1_3, vq7_3_3, vq7_5_3]) rfl (by simp only [List.map_cons, List.map_nil, ocq7_6_1.2, ocq7_6_2.2, ocq7_6_3.2]; rfl) (by kernel_rfl)) ?_
          refine TA.back (.inr (fun _ s => by replace s := Sat.front 3 rfl s; replace s := Sat.erase 1 s; replace s := Sat.erase 1 s; replace s := Sat.erase 1 s; exact s)) ?_
          refine TA.all1 (i := 7) (by kernel_rfl) ?_
          refine TB.of rfl ?_
          refine TO.box (cs := [vq7_1_3, vq7_3_3, vq7_5_3]) rfl rfl rfl fun bq7_7_1 => ?_
          refine TA.back (.inr (fun _ s => by replace s := Sat.front 4 rfl s; replace s := Sat.erase 1 s; replace s := Sat.erase 1 s; replace s := Sat.erase 1 s; replace s := Sat.erase 1 s; exact s)) ?_
          refine TA.takeW 8 rfl rfl rfl rfl (StepS.assign rfl) (by kernel_rfl) (by kernel_rfl) (by kernel_rfl) rfl (.inr (fun _ s => by replace s := Sat.front 4 rfl s; replace s := Sat.erase 1 s; replace s := Sat.erase 1 s; replace s := Sat.erase 1 s; replace s := Sat.erase 1 s; exact s)) ?_
          cases hj17
          refine TA.nil (by kernel_rfl) fun a w e s => ?_
          exact ⟨vq7_1_3, vq7_3_3, vq7_5_3, bq7_7_1, e.sub (lk_of_allIn ⟨rfl, rfl, rfl, trivial⟩), s.mono fun _ s => (by replace s := Sat.front 4 rfl s; replace s := Sat.front 1 rfl s; replace s := Sat.front 4 rfl s; replace s := Sat.front 4 rfl s; replace s := Sat.front 4 rfl s; exact s)⟩
    · intro a w ⟨v8, v11, v14, bq7_7_1, he, hs⟩
      refine TC.use ?_ he hs
      refine TC.k ?_
      refine TC.region ?_
      refine TO.s rfl rfl rfl (StepS.assign rfl) ?_
      refine TO.code ?_
      refine TC.k ?_
      refine TC.k ?_
      refine TC.region ?_
      refine TO.s rfl rfl rfl (StepS.move rfl) ?_
      refine TO.s rfl rfl rfl (StepS.lenm rfl e1.tl.tl.tl.tl.tl ksliceB_23_106_4_true rfl) ?_
      refine TO.s rfl rfl rfl (StepS.move rfl) ?_
      refine TO.code ?_
      obtain ⟨o56, hw57, hm⟩ := bind_some hm
      refine TC.loop hw57 (fun (y20, y23, y26, y29, x30) => fun a w => ∃ v18 : Value, ∃ v21 : Value, ∃ v24 : Value, ∃ v27 : Value, Mid 49 B [(4, .pointer (some ⟨b3, 0, none⟩)), (6, .pointer (some ⟨bq7_7_1, 0, none⟩)), (7, v18), (30, h1), (31, I (a1.length : Int)), (32, I x30)] (OwnS 28 1 v18 (y20.map cI) :: OwnS 3 1 v21 (y23.map cI) :: OwnS 4 1 v24 (y26.map cB) :: OwnS 4 1 v27 (y29.map cB) :: Bx bq7_7_1 197 [v21, v24, v27] :: Bx b3 93 [.slice none 0 0, .slice none 0 0] :: L) a w) (fun (y46, y49, y52, y55) => fun a w => ∃ v44 : Value, ∃ v47 : Value, ∃ v50 : Value, ∃ v53 : Value, Mid 49 B [(4, .pointer (some ⟨b3, 0, none⟩)), (6, .pointer (some ⟨bq7_7_1, 0, none⟩)), (7, v44)] (OwnS 28 1 v44 (y46.map cI) :: OwnS 3 1 v47 (y49.map cI) :: OwnS 4 1 v50 (y52.map cB) :: OwnS 4 1 v53 (y55.map cB) :: Bx bq7_7_1 197 [v47, v50, v53] :: Bx b3 93 [.slice none 0 0, .slice none 0 0] :: L) a w) (fun (_ : Unit) _ _ => False) ?_ ?_ ?_ ?_
      · rintro ⟨y20, y23, y26, y29, x30⟩ o56r hb58 a w ⟨v18, v21, v24, v27, he, hs⟩
        dsimp only [F44_L0] at hb58
        refine TC.use ?_ he hs
        refine TC.k ?_
        refine TC.region ?_
        refine TO.s rfl rfl rfl (StepS.cmp rfl rfl rfl) ?_
        refine TO.code ?_
        refine TC.k ?_
        refine TC.cond rfl (fun hc59 => ?_) (fun hc59 => ?_)
        · replace hb58 := cond_t hc59 hb58
          refine TC.skipk ?_
          refine TC.k ?_
          refine TC.block ?_
          refine TC.k ?_
          refine TC.region ?_
          obtain ⟨x60, hx61, hb58⟩ := bind_some hb58
          refine TO.s rfl rfl rfl (StepS.idx rfl rfl e1.tl.tl.tl.tl.tl.tl ksliceB_23_106_4_true (idx_spec hx61).1 (idxm_lt hx61)) ?_
          refine TO.s rfl rfl rfl (StepS.ldE rfl e1.tl.tl.tl.tl.tl.tl kaggB_106_4_true rfl (idxm hx61)) ?_
          refine TO.alloc kinfo_106_bind_zero_some_agg_I_0_I_0_I_0_I_0 rfl rfl fun b62 => ?_
          refine TO.stB (us := [I x60.1, I x60.2.1, I x60.2.2.1, I x60.2.2.2]) 0 [I x60.1, I x60.2.1, I x60.2.2.1, I x60.2.2.2] rfl rfl rfl ksizeB_106_4_true rfl rfl rfl (by simp [Value.oneCell']) rfl ?_
          refine TO.code ?_
          refine TC.region ?_
          refine TO.s rfl rfl rfl (StepS.move rfl) ?_
          refine TO.s rfl rfl rfl (StepS.move rfl) ?_
          refine TO.s rfl rfl rfl (StepS.ldBA rfl (Ent.at 0 rfl) kaggB_106_4_true rfl rfl) ?_
          refine TO.ghost (fun _ s => Sat.front 4 rfl s) ?_
          refine TO.ghost (fun _ s => Sat.front 4 rfl s) ?_
          refine TO.ghost (fun _ s => Sat.front 4 rfl s) ?_
          refine TO.ghost (fun _ s => Sat.front 5 rfl s) ?_
          obtain ⟨⟨r63, r64⟩, hc65, hb58⟩ := bind_some hb58
          refine TO.callO kcallB_78_true rfl rfl rfl (fun _ st => C78 (a0 := (y23, y26, y29))  hc65 st) ?_
          rintro _ _ ⟨v66, v68, v70, rfl, rfl⟩
          refine TO.litS (f := cI) ([r63] : List Int) kelemB_24_28_1_8_true kinfo_28_bind_zero_some_I_0 rfl rfl (fun _ => rfl) rfl rfl (by kernel_rfl) rfl fun v72 => ?_
          obtain ⟨y74, hk75, hb58⟩ := bind_some hb58
          refine TO.app (k := 6) (f := cI) kelemB_24_28_1_8_true (by decide) rfl rfl rfl (OwnS.rd (Ent.at 0 rfl)) hk75 (fun x c hc => by simp [Value.oneCell'] at hc ⊢; first | (obtain rfl := hc; rfl) | (rcases hc with rfl <;> rfl)) rfl rfl fun v76 => ?_
          refine TO.s rfl rfl rfl (StepS.assign rfl) ?_
          refine TO.code ?_
          refine TC.region ?_
          refine TO.s rfl rfl rfl (StepS.ari rfl rfl rfl) ?_
          refine TO.s rfl rfl rfl (StepS.move rfl) ?_
          cases hb58
          refine TO.nil fun a w e s => ?_
          exact ⟨v76, v66, v68, v70, e.sub (lk_of_allIn ⟨rfl, rfl, rfl, rfl, rfl, rfl, trivial⟩), s.mono fun _ s => (by replace s := Sat.front 7 rfl s; replace s := Sat.front 2 rfl s; replace s := Sat.front 5 rfl s; replace s := Sat.front 5 rfl s; replace s := Sat.front 5 rfl s; replace s := Sat.front 7 rfl s; replace s := Sat.erase 6 s; replace s := Sat.erase 6 s; exact s)⟩
        · replace hb58 := cond_f hc59 hb58
          cases hb58
          refine TC.exit rfl fun a w e s => ?_
          exact ⟨v18, v21, v24, v27, e.sub (lk_of_allIn ⟨rfl, rfl, rfl, trivial⟩), s⟩
      · exact fun a w e s => ⟨.slice none 0 0, v8, v11, v14, e.sub (lk_of_allIn ⟨rfl, rfl, rfl, rfl, rfl, rfl, trivial⟩), s.mono fun _ s => (by replace s := Sat.front 4 rfl s; replace s := Sat.front 4 rfl s; replace s := Sat.front 4 rfl s; replace s := Sat.front 4 rfl s; replace s := Sat.front 4 rfl s; replace s := Sat.nilS (e := 28) (sz := 1) (f := cI) s; exact s)⟩
      · rintro ⟨y46, y49, y52, y55⟩ rfl a w ⟨v44, v47, v50, v53, he, hs⟩
        dsimp only [Ctl.on] at hm
        refine TC.use ?_ he hs
        refine TC.k ?_
        refine TC.region ?_
        refine TO.s rfl rfl rfl (StepS.move rfl) ?_
        refine TO.s rfl rfl rfl (StepS.move rfl) ?_
        refine TO.s rfl rfl rfl (StepS.nilc rfl) ?_
        refine TO.s rfl rfl rfl (StepS.fld rfl kfieldB_197_0_0_true) ?_
        refine TO.s rfl rfl rfl (StepS.ldB rfl (Ent.at 4 rfl) kscalB_22_true rfl) ?_
        refine TO.pure (fun _ s => Rd.one (OwnS.rd (Ent.at 0 rfl)) s) fun oc77 => ?_
        refine TO.pure (fun _ s => Rd.one (OwnS.rd (Ent.at 1 rfl)) s) fun oc78 => ?_
        refine TO.s rfl rfl rfl (StepS.buildS (us := [(0, .agg #[v44]), (1, .agg #[v47])]) (cs := [v44, v47]) rfl (by simp only [List.map_cons, List.map_nil, oc77.2, oc78.2]; rfl) (by kernel_rfl)) ?_
        refine TO.pure (fun _ s => Rd.one (OwnS.rd (Ent.at 0 rfl)) s) fun oc79 => ?_
        refine TO.pure (fun _ s => Rd.one (OwnS.rd (Ent.at 1 rfl)) s) fun oc80 => ?_
        refine TO.stB (us := [v44, v47]) 5 [v44, v47] rfl rfl rfl ksizeB_93_2_true rfl rfl rfl (by intro u hu; simp only [List.mem_cons, List.not_mem_nil, or_false] at hu; rcases hu with rfl | rfl <;> first | exact oc79.1 | exact oc80.1 | rfl) rfl ?_
        refine TO.s rfl rfl rfl (StepS.assign rfl) ?_
        refine TO.code ?_
        cases hm
        refine TC.ret fun a w e s => ?_
        refine FRet.cell2 (P := Try.prog) (fn := Try.f44) e s rfl rfl rfl (Ent.at 5 rfl) kaggB_93_2_true rfl ?_
        refine ⟨_, _, rfl, ⟨(v44), (v47), rfl, rfl⟩, ?_⟩
        refine s.mono fun _ s => ?_
        replace s := Sat.front 1 rfl s
        replace s := Sat.front 1 rfl s
        replace s := Sat.erase 2 s
        replace s := Sat.erase 2 s
        replace s := Sat.erase 2 s
        replace s := Sat.erase 2 s
        exact s
      · rintro r rfl
        exact fun a w h => h.elim

set_option maxRecDepth 100000 in
theorem C21 {B : World} {L : List HP} {a0 : Int} {a1 : Int} {r0 : Int} (hm : F21 a0 a1 = some r0) {w : World} (st : St B L w) : Calls Try.prog 21 #[I a0, I a1] w (fun e w' => (e = .returned (I r0) ∧ St B (L) w')) := by
  refine calls_of (N := 15) (L := L) (args := [I a0, I a1]) Try.func21 rfl rfl rfl ?_ st
  dsimp only [F21] at hm
  refine TC.k ?_
  refine TC.region ?_
  refine TO.s rfl rfl rfl (StepS.assign rfl) ?_
  refine TO.code ?_
  refine TC.k ?_
  refine TC.k ?_
  refine TC.region ?_
  refine TO.s rfl rfl rfl (StepS.move rfl) ?_
  refine TO.s rfl rfl rfl (StepS.cmp rfl rfl rfl) ?_
  refine TO.s rfl rfl rfl (StepS.move rfl) ?_
  refine TO.mid1 3 10 (.bool ((decide (a0 < 1)) || (decide (a0 > 6)))) ?_ ?_
  · refine bcase ((decide (a0 < 1))) (fun hb1 => ?_) (fun hb1 => ?_)
    · refine TO.skip rfl rfl rfl (skipT hb1) rfl rfl ?_
      refine TO.skip rfl rfl rfl (skipT hb1) rfl rfl ?_
      refine TO.s rfl rfl rfl (StepS.pickT rfl hb1 rfl) ?_
      exact TO.up1 3 0 rfl rfl (by rw [hb1]; rfl) rfl
    · refine TO.sw rfl rfl rfl hb1 rfl rfl (StepS.move rfl) ?_
      refine TO.sw rfl rfl rfl hb1 rfl rfl (StepS.cmp rfl rfl rfl) ?_
      refine TO.s rfl rfl rfl (StepS.pickF rfl hb1 rfl) ?_
      exact TO.up1 3 0 rfl rfl (by rw [hb1]; rfl) rfl
  refine TO.s rfl rfl rfl (StepS.move rfl) ?_
  refine TO.mid1 3 14 (.bool (((decide (a0 < 1)) || (decide (a0 > 6))) || (decide (a1 > 60)))) ?_ ?_
  · refine bcase (((decide (a0 < 1)) || (decide (a0 > 6)))) (fun hb2 => ?_) (fun hb2 => ?_)
    · refine TO.skip rfl rfl rfl (skipT hb2) rfl rfl ?_
      refine TO.skip rfl rfl rfl (skipT hb2) rfl rfl ?_
      refine TO.s rfl rfl rfl (StepS.pickT rfl hb2 rfl) ?_
      exact TO.up1 3 0 rfl rfl (by rw [hb2]; rfl) rfl
    · refine TO.sw rfl rfl rfl hb2 rfl rfl (StepS.move rfl) ?_
      refine TO.sw rfl rfl rfl hb2 rfl rfl (StepS.cmp rfl rfl rfl) ?_
      refine TO.s rfl rfl rfl (StepS.pickF rfl hb2 rfl) ?_
      exact TO.up1 3 0 rfl rfl (by rw [hb2]; rfl) rfl
  refine TO.code ?_
  refine TC.cond rfl (fun hc3 => ?_) (fun hc3 => ?_)
  · replace hm := cond_t hc3 hm
    refine TC.k ?_
    refine TC.region ?_
    refine TO.s rfl rfl rfl (StepS.assign rfl) ?_
    refine TO.code ?_
    cases hm
    refine TC.ret fun a w e s => ?_
    refine FRet.mk1 (P := Try.prog) (fn := Try.f21) (t := 4) e rfl rfl ?_
    exact ⟨rfl, s.mono fun _ => Sat.dropN 0⟩
  · replace hm := cond_f hc3 hm
    refine TC.skipk ?_
    refine TC.k ?_
    refine TC.region ?_
    refine TO.s rfl rfl rfl (StepS.assign rfl) ?_
    refine TO.code ?_
    cases hm
    refine TC.ret fun a w e s => ?_
    refine FRet.mk1 (P := Try.prog) (fn := Try.f21) (t := 4) e rfl rfl ?_
    exact ⟨rfl, s.mono fun _ => Sat.dropN 0⟩

set_option maxRecDepth 100000 in
theorem C79 {B : World} {L : List HP} {a0 : Int} {a1 : (List Int) × List Int} {b1_ : Nat} {h1_1 : Value} {h1_2 : Value} {r0 : Bool} (g1 : Ent L (Bx b1_ 93 [h1_1, h1_2])) (eh1_1 : Ent L (Rd 1 h1_1 (a1.1.map cI))) (eh1_2 : Ent L (Rd 1 h1_2 (a1.2.map cI))) (hm : F79 a0 a1 = some r0) {w : World} (st : St B L w) : Calls Try.prog 79 #[I a0, .pointer (some ⟨b1_, 0, none⟩)] w (fun e w' => (e = .returned (.bool r0) ∧ St B (L) w')) := by
  refine calls_of (N := 18) (L := L) (args := [I a0, .pointer (some ⟨b1_, 0, none⟩)]) Try.func79 rfl rfl rfl ?_ st
  dsimp only [F79] at hm
  refine TC.k ?_
  refine TC.region ?_
  refine TO.s rfl rfl rfl (StepS.assign rfl) ?_
  refine TO.code ?_
  refine TC.k ?_
  refine TC.region ?_
  refine TO.s rfl rfl rfl (StepS.fld rfl kfieldB_93_1_1_true) ?_
  refine TO.s rfl rfl rfl (StepS.ldB rfl g1 kscalB_22_true rfl) ?_
  refine TO.s rfl rfl rfl (StepS.move rfl) ?_
  obtain ⟨x3, hx4, hm⟩ := bind_some hm
  refine TO.s rfl rfl rfl (StepS.idx rfl rfl eh1_2 ksliceB_22_3_1_true (idx_spec hx4).1 (idxm_lt hx4)) ?_
  refine TO.s rfl rfl rfl (StepS.ld0 rfl eh1_2 kscalB_3_true rfl (idxm hx4) rfl) ?_
  refine TO.s rfl rfl rfl (StepS.cmp rfl rfl rfl) ?_
  refine TO.s rfl rfl rfl (StepS.move rfl) ?_
  obtain ⟨b6, hj7, hm⟩ := bind_some hm
  refine TO.mid1 7 17 (.bool b6) ?_ ?_
  · refine bcase ((x3 == 2)) (fun hb5 => ?_) (fun hb5 => ?_)
    · replace hj7 := cond_t hb5 hj7
      cases hj7
      refine TO.skip rfl rfl rfl (skipT hb5) rfl rfl ?_
      refine TO.skip rfl rfl rfl (skipT hb5) rfl rfl ?_
      refine TO.skip rfl rfl rfl (skipT hb5) rfl rfl ?_
      refine TO.skip rfl rfl rfl (skipT hb5) rfl rfl ?_
      refine TO.skip rfl rfl rfl (skipT hb5) rfl rfl ?_
      refine TO.skip rfl rfl rfl (skipT hb5) rfl rfl ?_
      refine TO.s rfl rfl rfl (StepS.pickT rfl hb5 rfl) ?_
      exact TO.up1 7 0 rfl rfl rfl rfl
    · replace hj7 := cond_f hb5 hj7
      refine TO.sw rfl rfl rfl hb5 rfl rfl (StepS.fld rfl kfieldB_93_1_1_true) ?_
      refine TO.sw rfl rfl rfl hb5 rfl rfl (StepS.ldB rfl g1 kscalB_22_true rfl) ?_
      refine TO.sw rfl rfl rfl hb5 rfl rfl (StepS.move rfl) ?_
      obtain ⟨x8, hx9, hj7⟩ := bind_some hj7
      refine TO.sw rfl rfl rfl hb5 rfl rfl (StepS.idx rfl rfl eh1_2 ksliceB_22_3_1_true (idx_spec hx9).1 (idxm_lt hx9)) ?_
      refine TO.sw rfl rfl rfl hb5 rfl rfl (StepS.ld0 rfl eh1_2 kscalB_3_true rfl (idxm hx9) rfl) ?_
      refine TO.sw rfl rfl rfl hb5 rfl rfl (StepS.cmp rfl rfl rfl) ?_
      cases hj7
      refine TO.s rfl rfl rfl (StepS.pickF rfl hb5 rfl) ?_
      exact TO.up1 7 0 rfl rfl rfl rfl
  refine TO.s rfl rfl rfl (StepS.assign rfl) ?_
  refine TO.code ?_
  cases hm
  refine TC.ret fun a w e s => ?_
  refine FRet.mk1 (P := Try.prog) (fn := Try.f79) (t := 3) e rfl rfl ?_
  exact ⟨rfl, s.mono fun _ => Sat.dropN 0⟩

set_option maxRecDepth 100000 in
theorem C80 {B : World} {L : List HP} {a0 : Int} {a1 : Int} {b1_ : Nat} {r0 : Bool} (g1 : Ent L (Bx b1_ 3 [I a1])) (hm : F80 a0 a1 = some r0) {w : World} (st : St B L w) : Calls Try.prog 80 #[I a0, .pointer (some ⟨b1_, 0, none⟩)] w (fun e w' => (e = .returned (.bool r0) ∧ St B (L) w')) := by
  refine calls_of (N := 11) (L := L) (args := [I a0, .pointer (some ⟨b1_, 0, none⟩)]) Try.func80 rfl rfl rfl ?_ st
  dsimp only [F80] at hm
  refine TC.k ?_
  refine TC.region ?_
  refine TO.s rfl rfl rfl (StepS.assign rfl) ?_
  refine TO.code ?_
  refine TC.k ?_
  refine TC.region ?_
  refine TO.s rfl rfl rfl (StepS.move rfl) ?_
  refine TO.s rfl rfl rfl (StepS.cmp rfl rfl rfl) ?_
  refine TO.s rfl rfl rfl (StepS.move rfl) ?_
  refine TO.mid1 4 10 (.bool ((decide (a0 > 0)) && (decide (a0 < a1)))) ?_ ?_
  · refine bcase ((decide (a0 > 0))) (fun hb1 => ?_) (fun hb1 => ?_)
    · refine TO.sw rfl rfl rfl hb1 rfl rfl (StepS.move rfl) ?_
      refine TO.sw rfl rfl rfl hb1 rfl rfl (StepS.ldB rfl g1 kscalB_3_true rfl) ?_
      refine TO.sw rfl rfl rfl hb1 rfl rfl (StepS.cmp rfl rfl rfl) ?_
      refine TO.s rfl rfl rfl (StepS.pickT rfl hb1 rfl) ?_
      exact TO.up1 4 0 rfl rfl (by rw [hb1]; rfl) rfl
    · refine TO.skip rfl rfl rfl (skipF hb1) rfl rfl ?_
      refine TO.skip rfl rfl rfl (skipF hb1) rfl rfl ?_
      refine TO.skip rfl rfl rfl (skipF hb1) rfl rfl ?_
      refine TO.s rfl rfl rfl (StepS.pickF rfl hb1 rfl) ?_
      exact TO.up1 4 0 rfl rfl (by rw [hb1]; rfl) rfl
  refine TO.s rfl rfl rfl (StepS.assign rfl) ?_
  refine TO.code ?_
  cases hm
  refine TC.ret fun a w e s => ?_
  refine FRet.mk1 (P := Try.prog) (fn := Try.f80) (t := 3) e rfl rfl ?_
  exact ⟨rfl, s.mono fun _ => Sat.dropN 0⟩

set_option maxHeartbeats 4000000 in
set_option maxRecDepth 100000 in
theorem C45 {B : World} {L : List HP} {a0 : Int} {a1 : List (Int × Int × Int × Int)} {h1 : Value} {r0 : (List Int) × List Int} (e1 : Ent L (Rd 4 h1 (a1.map cTiiii))) (hm : F45 a0 a1 = some r0) {w : World} (st : St B L w) : Calls Try.prog 45 #[I a0, h1] w (fun e w' => ∃ v M, e = .returned v ∧ (∃ (qv1 : Value) (qv2 : Value), v = .agg #[qv1, qv2] ∧ M = (OwnS 28 1 qv1 (r0.1.map cI) :: OwnS 3 1 qv2 (r0.2.map cI) :: L)) ∧ St B M w') := by
  refine calls_of (N := 260) (L := L) (args := [I a0, h1]) Try.func45 rfl rfl rfl ?_ st
  dsimp only [F45] at hm
  refine TC.k ?_
  refine TC.region ?_
  refine TO.box (cs := [I a0]) rfl rfl rfl fun b3 => ?_
  refine TO.alloc kinfo_93_bind_zero_some_agg_slice_none_0_0_slice_none_0_0 rfl rfl fun b4 => ?_
  refine TO.code ?_
  refine TC.k ?_
  refine TC.region ?_
  refine TO.s rfl rfl rfl (StepS.ldB rfl (Ent.at 1 rfl) kscalB_3_true rfl) ?_
  obtain ⟨y5, hk6, hm⟩ := bind_some hm
  refine TO.mkS (f := cI) (za := 0) kelemB_22_3_1_8_true kinfo_3_bind_zero_some_I_0 rfl (by decide) rfl rfl hk6 rfl fun v7 => ?_
  refine TO.pure (fun _ s => Rd.one (OwnS.rd (Ent.at 0 rfl)) s) fun oc9 => ?_
  refine TO.s rfl rfl rfl (StepS.buildS (us := [(1, .agg #[v7])]) (cs := [.slice none 0 0, v7]) rfl (by simp only [List.map_cons, List.map_nil, oc9.2]; rfl) (by kernel_rfl)) ?_
  refine TO.alloc kinfo_93_bind_zero_some_agg_slice_none_0_0_slice_none_0_0 rfl rfl fun b10 => ?_
  refine TO.pure (fun _ s => Rd.one (OwnS.rd (Ent.at 1 rfl)) s) fun oc11 => ?_
  refine TO.stB (us := [.slice none 0 0, v7]) 0 [.slice none 0 0, v7] rfl rfl rfl ksizeB_93_2_true rfl rfl rfl (by intro u hu; simp only [List.mem_cons, List.not_mem_nil, or_false] at hu; rcases hu with rfl | rfl <;> first | exact oc11.1 | rfl) rfl ?_
  refine TO.code ?_
  refine TC.k ?_
  refine TC.region ?_
  refine TO.s rfl rfl rfl (StepS.ldB rfl (Ent.at 3 rfl) kscalB_3_true rfl) ?_
  obtain ⟨y12, hk13, hm⟩ := bind_some hm
  refine TO.mkS (f := cB) (za := false) kelemB_115_4_1_1_true kinfo_4_bind_zero_some_bool_false rfl (by decide) rfl rfl hk13 rfl fun v14 => ?_
  refine TO.s rfl rfl rfl (StepS.assign rfl) ?_
  refine TO.code ?_
  refine TC.k ?_
  refine TC.region ?_
  refine TO.s rfl rfl rfl (StepS.ldB rfl (Ent.at 4 rfl) kscalB_3_true rfl) ?_
  obtain ⟨y16, hk17, hm⟩ := bind_some hm
  refine TO.mkS (f := cB) (za := false) kelemB_115_4_1_1_true kinfo_4_bind_zero_some_bool_false rfl (by decide) rfl rfl hk17 rfl fun v18 => ?_
  refine TO.s rfl rfl rfl (StepS.assign rfl) ?_
  refine TO.code ?_
  refine TC.k ?_
  refine TC.region ?_
  refine TO.s rfl rfl rfl (StepS.mkfn rfl) ?_
  refine TO.s rfl rfl rfl (StepS.assign rfl) ?_
  refine TO.code ?_
  refine TC.k ?_
  refine TC.region ?_
  refine TO.s rfl rfl rfl (StepS.mkfn rfl) ?_
  refine TO.s rfl rfl rfl (StepS.assign rfl) ?_
  refine TO.code ?_
  refine TC.k ?_
  refine TC.k ?_
  refine TC.region ?_
  refine TO.s rfl rfl rfl (StepS.move rfl) ?_
  refine TO.s rfl rfl rfl (StepS.lenm rfl e1.tl.tl.tl.tl.tl.tl ksliceB_23_106_4_true rfl) ?_
  refine TO.s rfl rfl rfl (StepS.move rfl) ?_
  refine TO.code ?_
  obtain ⟨o49, hw50, hm⟩ := bind_some hm
  refine TC.loop hw50 (fun (y22, y23, y25, y27, x29) => fun a w => ∃ v20 : Value, ∃ v24 : Value, ∃ v26 : Value, ∃ v28 : Value, Mid 260 B [(2, .pointer (some ⟨b3, 0, none⟩)), (4, .pointer (some ⟨b4, 0, none⟩)), (5, .pointer (some ⟨b10, 0, none⟩)), (6, v26), (7, v24), (8, .func (.func 79) #[] #[.pointer (some ⟨b10, 0, none⟩)]), (9, .func (.func 80) #[] #[.pointer (some ⟨b3, 0, none⟩)]), (25, h1), (26, I (a1.length : Int)), (27, I x29)] (OwnS 28 1 v20 (y22.map cI) :: OwnS 4 1 v24 (y23.map cB) :: OwnS 4 1 v26 (y25.map cB) :: Bx b10 93 [v20, v28] :: OwnS 3 1 v28 (y27.map cI) :: Bx b4 93 [.slice none 0 0, .slice none 0 0] :: Bx b3 3 [I a0] :: L) a w) (fun (y42, y43, y45, y47) => fun a w => ∃ v40 : Value, ∃ v44 : Value, ∃ v46 : Value, ∃ v48 : Value, Mid 260 B [(4, .pointer (some ⟨b4, 0, none⟩)), (5, .pointer (some ⟨b10, 0, none⟩))] (OwnS 28 1 v40 (y42.map cI) :: OwnS 4 1 v44 (y43.map cB) :: OwnS 4 1 v46 (y45.map cB) :: Bx b10 93 [v40, v48] :: OwnS 3 1 v48 (y47.map cI) :: Bx b4 93 [.slice none 0 0, .slice none 0 0] :: Bx b3 3 [I a0] :: L) a w) (fun (_ : Unit) _ _ => False) ?_ ?_ ?_ ?_
  · rintro ⟨y22, y23, y25, y27, x29⟩ o49r hb51 a w ⟨v20, v24, v26, v28, he, hs⟩
    dsimp only [F45_L0] at hb51
    refine TC.use ?_ he hs
    refine TC.k ?_
    refine TC.region ?_
    refine TO.s rfl rfl rfl (StepS.cmp rfl rfl rfl) ?_
    refine TO.code ?_
    refine TC.k ?_
    refine TC.cond rfl (fun hc52 => ?_) (fun hc52 => ?_)
    · replace hb51 := cond_t hc52 hb51
      refine TC.skipk ?_
      refine TC.k ?_
      refine TC.block ?_
      refine TC.k ?_
      refine TC.region ?_
      obtain ⟨x53, hx54, hb51⟩ := bind_some hb51
      refine TO.s rfl rfl rfl (StepS.idx rfl rfl e1.tl.tl.tl.tl.tl.tl.tl ksliceB_23_106_4_true (idx_spec hx54).1 (idxm_lt hx54)) ?_
      refine TO.s rfl rfl rfl (StepS.ldE rfl e1.tl.tl.tl.tl.tl.tl.tl kaggB_106_4_true rfl (idxm hx54)) ?_
      refine TO.alloc kinfo_106_bind_zero_some_agg_I_0_I_0_I_0_I_0 rfl rfl fun b55 => ?_
      refine TO.stB (us := [I x53.1, I x53.2.1, I x53.2.2.1, I x53.2.2.2]) 0 [I x53.1, I x53.2.1, I x53.2.2.1, I x53.2.2.2] rfl rfl rfl ksizeB_106_4_true rfl rfl rfl (by simp [Value.oneCell']) rfl ?_
      refine TO.code ?_
      refine TC.k ?_
      refine TC.region ?_
      refine TO.s rfl rfl rfl (StepS.assign rfl) ?_
      refine TO.code ?_
      refine TC.k ?_
      refine TC.region ?_
      refine TO.s rfl rfl rfl (StepS.fld rfl kfieldB_106_1_1_true) ?_
      refine TO.s rfl rfl rfl (StepS.ldB rfl (Ent.at 0 rfl) kscalB_3_true rfl) ?_
      refine TO.s rfl rfl rfl (StepS.assign rfl) ?_
      refine TO.code ?_
      refine TC.k ?_
      refine TC.k ?_
      refine TC.region ?_
      refine TO.s rfl rfl rfl (StepS.fld rfl kfieldB_106_0_0_true) ?_
      refine TO.s rfl rfl rfl (StepS.ldB rfl (Ent.at 0 rfl) kscalB_3_true rfl) ?_
      refine TO.s rfl rfl rfl (StepS.cmp rfl rfl rfl) ?_
      refine TO.s rfl rfl rfl (StepS.move rfl) ?_
      refine TO.mid1 4 40 (.bool ((x53.1 == 2) || (x53.1 == 3))) ?_ ?_
      · refine bcase ((x53.1 == 2)) (fun hb56 => ?_) (fun hb56 => ?_)
        · refine TO.skip rfl rfl rfl (skipT hb56) rfl rfl ?_
          refine TO.skip rfl rfl rfl (skipT hb56) rfl rfl ?_
          refine TO.skip rfl rfl rfl (skipT hb56) rfl rfl ?_
          refine TO.s rfl rfl rfl (StepS.pickT rfl hb56 rfl) ?_
          exact TO.up1 4 0 rfl rfl (by rw [hb56]; rfl) rfl
        · refine TO.sw rfl rfl rfl hb56 rfl rfl (StepS.fld rfl kfieldB_106_0_0_true) ?_
          refine TO.sw rfl rfl rfl hb56 rfl rfl (StepS.ldB rfl (Ent.at 0 rfl) kscalB_3_true rfl) ?_
          refine TO.sw rfl rfl rfl hb56 rfl rfl (StepS.cmp rfl rfl rfl) ?_
          refine TO.s rfl rfl rfl (StepS.pickF rfl hb56 rfl) ?_
          exact TO.up1 4 0 rfl rfl (by rw [hb56]; rfl) rfl
      refine TO.code ?_
      obtain ⟨x57, hj58, hb51⟩ := bind_some hb51
      first | refine TC.cutM (fun a w => Mid 260 B [(2, .pointer (some ⟨b3, 0, none⟩)), (4, .pointer (some ⟨b4, 0, none⟩)), (5, .pointer (some ⟨b10, 0, none⟩)), (6, v26), (7, v24), (8, .func (.func 79) #[] #[.pointer (some ⟨b10, 0, none⟩)]), (9, .func (.func 80) #[] #[.pointer (some ⟨b3, 0, none⟩)]), (11, .pointer (some ⟨b55, 0, none⟩)), (12, I 0), (13, I x57), (25, h1), (26, I (a1.length : Int)), (27, I x29)] (Bx b55 106 [I x53.1, I x53.2.1, I x53.2.2.1, I x53.2.2.2] :: OwnS 28 1 v20 (y22.map cI) :: OwnS 4 1 v24 (y23.map cB) :: OwnS 4 1 v26 (y25.map cB) :: Bx b10 93 [v20, v28] :: OwnS 3 1 v28 (y27.map cI) :: Bx b4 93 [.slice none 0 0, .slice none 0 0] :: Bx b3 3 [I a0] :: L) a w) ?_ ?_ | refine TC.cutX (fun a w => Mid 260 B [(2, .pointer (some ⟨b3, 0, none⟩)), (4, .pointer (some ⟨b4, 0, none⟩)), (5, .pointer (some ⟨b10, 0, none⟩)), (6, v26), (7, v24), (8, .func (.func 79) #[] #[.pointer (some ⟨b10, 0, none⟩)]), (9, .func (.func 80) #[] #[.pointer (some ⟨b3, 0, none⟩)]), (11, .pointer (some ⟨b55, 0, none⟩)), (12, I 0), (13, I x57), (25, h1), (26, I (a1.length : Int)), (27, I x29)] (Bx b55 106 [I x53.1, I x53.2.1, I x53.2.2.1, I x53.2.2.2] :: OwnS 28 1 v20 (y22.map cI) :: OwnS 4 1 v24 (y23.map cB) :: OwnS 4 1 v26 (y25.map cB) :: Bx b10 93 [v20, v28] :: OwnS 3 1 v28 (y27.map cI) :: Bx b4 93 [.slice none 0 0, .slice none 0 0] :: Bx b3 3 [I a0] :: L) a w) ?_ ?_
      · refine TC.cond rfl (fun hc59 => ?_) (fun hc59 => ?_)
        · replace hj58 := cond_t hc59 hj58
          refine TC.region ?_
          refine TO.s rfl rfl rfl (StepS.assign rfl) ?_
          cases hj58
          refine TO.nil fun a w e s => ?_
          exact ⟨e.sub (lk_of_allIn ⟨rfl, rfl, rfl, rfl, rfl, rfl, rfl, rfl, rfl, rfl, rfl, rfl, rfl, trivial⟩), s⟩
        · replace hj58 := cond_f hc59 hj58
          cases hj58
          refine TC.skip fun a w e s => ?_
          exact ⟨e.sub (lk_of_allIn ⟨rfl, rfl, rfl, rfl, rfl, rfl, rfl, rfl, rfl, rfl, rfl, rfl, rfl, trivial⟩), s⟩
      · intro a w ⟨he, hs⟩
        refine TC.use ?_ he hs
        refine TC.k ?_
        refine TC.region ?_
        refine TO.s rfl rfl rfl (StepS.move rfl) ?_
        refine TO.s rfl rfl rfl (StepS.cmp rfl rfl rfl) ?_
        refine TO.s rfl rfl rfl (StepS.move rfl) ?_
        refine TO.mid1 4 47 (.bool ((decide (x57 < 0)) || (decide (x57 ≥ a0)))) ?_ ?_
        · refine bcase ((decide (x57 < 0))) (fun hb60 => ?_) (fun hb60 => ?_)
          · refine TO.skip rfl rfl rfl (skipT hb60) rfl rfl ?_
            refine TO.skip rfl rfl rfl (skipT hb60) rfl rfl ?_
            refine TO.skip rfl rfl rfl (skipT hb60) rfl rfl ?_
            refine TO.s rfl rfl rfl (StepS.pickT rfl hb60 rfl) ?_
            exact TO.up1 4 0 rfl rfl (by rw [hb60]; rfl) rfl
          · refine TO.sw rfl rfl rfl hb60 rfl rfl (StepS.move rfl) ?_
            refine TO.sw rfl rfl rfl hb60 rfl rfl (StepS.ldB rfl (Ent.at 7 rfl) kscalB_3_true rfl) ?_
            refine TO.sw rfl rfl rfl hb60 rfl rfl (StepS.cmp rfl rfl rfl) ?_
            refine TO.s rfl rfl rfl (StepS.pickF rfl hb60 rfl) ?_
            exact TO.up1 4 0 rfl rfl (by rw [hb60]; rfl) rfl
        refine TO.s rfl rfl rfl (StepS.assign rfl) ?_
        refine TO.code ?_
        refine TC.k ?_
        refine TC.k ?_
        refine TC.region ?_
        refine TO.s rfl rfl rfl (StepS.fld rfl kfieldB_106_0_0_true) ?_
        refine TO.s rfl rfl rfl (StepS.ldB rfl (Ent.at 0 rfl) kscalB_3_true rfl) ?_
        refine TO.s rfl rfl rfl (StepS.cmp rfl rfl rfl) ?_
        refine TO.s rfl rfl rfl (StepS.move rfl) ?_
        refine TO.mid1 4 55 (.bool ((x53.1 == 1) || (x53.1 == 6))) ?_ ?_
        · refine bcase ((x53.1 == 1)) (fun hb61 => ?_) (fun hb61 => ?_)
          · refine TO.skip rfl rfl rfl (skipT hb61) rfl rfl ?_
            refine TO.skip rfl rfl rfl (skipT hb61) rfl rfl ?_
            refine TO.skip rfl rfl rfl (skipT hb61) rfl rfl ?_
            refine TO.s rfl rfl rfl (StepS.pickT rfl hb61 rfl) ?_
            exact TO.up1 4 0 rfl rfl (by rw [hb61]; rfl) rfl
          · refine TO.sw rfl rfl rfl hb61 rfl rfl (StepS.fld rfl kfieldB_106_0_0_true) ?_
            refine TO.sw rfl rfl rfl hb61 rfl rfl (StepS.ldB rfl (Ent.at 0 rfl) kscalB_3_true rfl) ?_
            refine TO.sw rfl rfl rfl hb61 rfl rfl (StepS.cmp rfl rfl rfl) ?_
            refine TO.s rfl rfl rfl (StepS.pickF rfl hb61 rfl) ?_
            exact TO.up1 4 0 rfl rfl (by rw [hb61]; rfl) rfl
        refine TO.code ?_
        obtain ⟨b62, hj63, hb51⟩ := bind_some hb51
        first | refine TC.cutM (fun a w => Mid 260 B [(2, .pointer (some ⟨b3, 0, none⟩)), (4, .pointer (some ⟨b4, 0, none⟩)), (5, .pointer (some ⟨b10, 0, none⟩)), (6, v26), (7, v24), (8, .func (.func 79) #[] #[.pointer (some ⟨b10, 0, none⟩)]), (9, .func (.func 80) #[] #[.pointer (some ⟨b3, 0, none⟩)]), (11, .pointer (some ⟨b55, 0, none⟩)), (12, I 0), (13, I x57), (14, .bool b62), (25, h1), (26, I (a1.length : Int)), (27, I x29)] (Bx b55 106 [I x53.1, I x53.2.1, I x53.2.2.1, I x53.2.2.2] :: OwnS 28 1 v20 (y22.map cI) :: OwnS 4 1 v24 (y23.map cB) :: OwnS 4 1 v26 (y25.map cB) :: Bx b10 93 [v20, v28] :: OwnS 3 1 v28 (y27.map cI) :: Bx b4 93 [.slice none 0 0, .slice none 0 0] :: Bx b3 3 [I a0] :: L) a w) ?_ ?_ | refine TC.cutX (fun a w => Mid 260 B [(2, .pointer (some ⟨b3, 0, none⟩)), (4, .pointer (some ⟨b4, 0, none⟩)), (5, .pointer (some ⟨b10, 0, none⟩)), (6, v26), (7, v24), (8, .func (.func 79) #[] #[.pointer (some ⟨b10, 0, none⟩)]), (9, .func (.func 80) #[] #[.pointer (some ⟨b3, 0, none⟩)]), (11, .pointer (some ⟨b55, 0, none⟩)), (12, I 0), (13, I x57), (14, .bool b62), (25, h1), (26, I (a1.length : Int)), (27, I x29)] (Bx b55 106 [I x53.1, I x53.2.1, I x53.2.2.1, I x53.2.2.2] :: OwnS 28 1 v20 (y22.map cI) :: OwnS 4 1 v24 (y23.map cB) :: OwnS 4 1 v26 (y25.map cB) :: Bx b10 93 [v20, v28] :: OwnS 3 1 v28 (y27.map cI) :: Bx b4 93 [.slice none 0 0, .slice none 0 0] :: Bx b3 3 [I a0] :: L) a w) ?_ ?_
        · refine TC.cond rfl (fun hc64 => ?_) (fun hc64 => ?_)
          · replace hj63 := cond_t hc64 hj63
            refine TC.region ?_
            refine TO.s rfl rfl rfl (StepS.move rfl) ?_
            refine TO.s rfl rfl rfl (StepS.move rfl) ?_
            obtain ⟨r65, hc66, hj63⟩ := bind_some hj63
            refine TO.q rfl rfl rfl (StepQ.callC kcallB_80_true rfl rfl rfl (fun _ st => C80 (Ent.at 7 rfl) hc66 st)) ?_
            refine TO.s rfl rfl rfl (StepS.not rfl) ?_
            refine TO.s rfl rfl rfl (StepS.assign rfl) ?_
            cases hj63
            refine TO.nil fun a w e s => ?_
            exact ⟨e.sub (lk_of_allIn ⟨rfl, rfl, rfl, rfl, rfl, rfl, rfl, rfl, rfl, rfl, rfl, rfl, rfl, rfl, trivial⟩), s⟩
          · replace hj63 := cond_f hc64 hj63
            cases hj63
            refine TC.skip fun a w e s => ?_
            exact ⟨e.sub (lk_of_allIn ⟨rfl, rfl, rfl, rfl, rfl, rfl, rfl, rfl, rfl, rfl, rfl, rfl, rfl, rfl, trivial⟩), s⟩
        · intro a w ⟨he, hs⟩
          refine TC.use ?_ he hs
          refine TC.k ?_
          refine TC.k ?_
          refine TC.region ?_
          refine TO.s rfl rfl rfl (StepS.fld rfl kfieldB_106_0_0_true) ?_
          refine TO.s rfl rfl rfl (StepS.ldB rfl (Ent.at 0 rfl) kscalB_3_true rfl) ?_
          refine TO.s rfl rfl rfl (StepS.cmp rfl rfl rfl) ?_
          refine TO.s rfl rfl rfl (StepS.move rfl) ?_
          refine TO.mid1 4 67 (.bool ((x53.1 == 3) || (x53.1 == 6))) ?_ ?_
          · refine bcase ((x53.1 == 3)) (fun hb67 => ?_) (fun hb67 => ?_)
            · refine TO.skip rfl rfl rfl (skipT hb67) rfl rfl ?_
              refine TO.skip rfl rfl rfl (skipT hb67) rfl rfl ?_
              refine TO.skip rfl rfl rfl (skipT hb67) rfl rfl ?_
              refine TO.s rfl rfl rfl (StepS.pickT rfl hb67 rfl) ?_
              exact TO.up1 4 0 rfl rfl (by rw [hb67]; rfl) rfl
            · refine TO.sw rfl rfl rfl hb67 rfl rfl (StepS.fld rfl kfieldB_106_0_0_true) ?_
              refine TO.sw rfl rfl rfl hb67 rfl rfl (StepS.ldB rfl (Ent.at 0 rfl) kscalB_3_true rfl) ?_
              refine TO.sw rfl rfl rfl hb67 rfl rfl (StepS.cmp rfl rfl rfl) ?_
              refine TO.s rfl rfl rfl (StepS.pickF rfl hb67 rfl) ?_
              exact TO.up1 4 0 rfl rfl (by rw [hb67]; rfl) rfl
          refine TO.code ?_
          obtain ⟨b68, hj69, hb51⟩ := bind_some hb51
          first | refine TC.cutM (fun a w => Mid 260 B [(2, .pointer (some ⟨b3, 0, none⟩)), (4, .pointer (some ⟨b4, 0, none⟩)), (5, .pointer (some ⟨b10, 0, none⟩)), (6, v26), (7, v24), (8, .func (.func 79) #[] #[.pointer (some ⟨b10, 0, none⟩)]), (9, .func (.func 80) #[] #[.pointer (some ⟨b3, 0, none⟩)]), (11, .pointer (some ⟨b55, 0, none⟩)), (12, I 0), (13, I x57), (14, .bool b68), (25, h1), (26, I (a1.length : Int)), (27, I x29)] (Bx b55 106 [I x53.1, I x53.2.1, I x53.2.2.1, I x53.2.2.2] :: OwnS 28 1 v20 (y22.map cI) :: OwnS 4 1 v24 (y23.map cB) :: OwnS 4 1 v26 (y25.map cB) :: Bx b10 93 [v20, v28] :: OwnS 3 1 v28 (y27.map cI) :: Bx b4 93 [.slice none 0 0, .slice none 0 0] :: Bx b3 3 [I a0] :: L) a w) ?_ ?_ | refine TC.cutX (fun a w => Mid 260 B [(2, .pointer (some ⟨b3, 0, none⟩)), (4, .pointer (some ⟨b4, 0, none⟩)), (5, .pointer (some ⟨b10, 0, none⟩)), (6, v26), (7, v24), (8, .func (.func 79) #[] #[.pointer (some ⟨b10, 0, none⟩)]), (9, .func (.func 80) #[] #[.pointer (some ⟨b3, 0, none⟩)]), (11, .pointer (some ⟨b55, 0, none⟩)), (12, I 0), (13, I x57), (14, .bool b68), (25, h1), (26, I (a1.length : Int)), (27, I x29)] (Bx b55 106 [I x53.1, I x53.2.1, I x53.2.2.1, I x53.2.2.2] :: OwnS 28 1 v20 (y22.map cI) :: OwnS 4 1 v24 (y23.map cB) :: OwnS 4 1 v26 (y25.map cB) :: Bx b10 93 [v20, v28] :: OwnS 3 1 v28 (y27.map cI) :: Bx b4 93 [.slice none 0 0, .slice none 0 0] :: Bx b3 3 [I a0] :: L) a w) ?_ ?_
          · refine TC.cond rfl (fun hc70 => ?_) (fun hc70 => ?_)
            · replace hj69 := cond_t hc70 hj69
              refine TC.region ?_
              refine TO.s rfl rfl rfl (StepS.move rfl) ?_
              refine TO.s rfl rfl rfl (StepS.move rfl) ?_
              obtain ⟨b72, hj73, hj69⟩ := bind_some hj69
              refine TO.mid1 6 75 (.bool b72) ?_ ?_
              · refine bcase (b62) (fun hb71 => ?_) (fun hb71 => ?_)
                · replace hj73 := cond_t hb71 hj73
                  cases hj73
                  refine TO.skip rfl rfl rfl (skipT hb71) rfl rfl ?_
                  refine TO.skip rfl rfl rfl (skipT hb71) rfl rfl ?_
                  refine TO.skip rfl rfl rfl (skipT hb71) rfl rfl ?_
                  refine TO.skip rfl rfl rfl (skipT hb71) rfl rfl ?_
                  refine TO.skip rfl rfl rfl (skipT hb71) rfl rfl ?_
                  refine TO.s rfl rfl rfl (StepS.pickT rfl hb71 rfl) ?_
                  exact TO.up1 6 0 rfl rfl rfl rfl
                · replace hj73 := cond_f hb71 hj73
                  refine TO.sw rfl rfl rfl hb71 rfl rfl (StepS.move rfl) ?_
                  refine TO.sw rfl rfl rfl hb71 rfl rfl (StepS.fld rfl kfieldB_106_2_2_true) ?_
                  refine TO.sw rfl rfl rfl hb71 rfl rfl (StepS.ldB rfl (Ent.at 0 rfl) kscalB_3_true rfl) ?_
                  obtain ⟨r74, hc75, hj73⟩ := bind_some hj73
                  refine TO.qw rfl rfl rfl hb71 rfl rfl (StepQ.callC kcallB_80_true rfl rfl rfl (fun _ st => C80 (Ent.at 7 rfl) hc75 st)) ?_
                  refine TO.sw rfl rfl rfl hb71 rfl rfl (StepS.not rfl) ?_
                  cases hj73
                  refine TO.s rfl rfl rfl (StepS.pickF rfl hb71 rfl) ?_
                  exact TO.up1 6 0 rfl rfl rfl rfl
              refine TO.s rfl rfl rfl (StepS.assign rfl) ?_
              cases hj69
              refine TO.nil fun a w e s => ?_
              exact ⟨e.sub (lk_of_allIn ⟨rfl, rfl, rfl, rfl, rfl, rfl, rfl, rfl, rfl, rfl, rfl, rfl, rfl, rfl, trivial⟩), s⟩
            · replace hj69 := cond_f hc70 hj69
              cases hj69
              refine TC.skip fun a w e s => ?_
              exact ⟨e.sub (lk_of_allIn ⟨rfl, rfl, rfl, rfl, rfl, rfl, rfl, rfl, rfl, rfl, rfl, rfl, rfl, rfl, trivial⟩), s⟩
          · intro a w ⟨he, hs⟩
            refine TC.use ?_ he hs
            refine TC.k ?_
            refine TC.k ?_
            refine TC.region ?_
            refine TO.s rfl rfl rfl (StepS.fld rfl kfieldB_106_0_0_true) ?_
            refine TO.s rfl rfl rfl (StepS.ldB rfl (Ent.at 0 rfl) kscalB_3_true rfl) ?_
            refine TO.s rfl rfl rfl (StepS.cmp rfl rfl rfl) ?_
            refine TO.code ?_
            obtain ⟨b76, hj77, hb51⟩ := bind_some hb51
            first | refine TC.cutM (fun a w => Mid 260 B [(2, .pointer (some ⟨b3, 0, none⟩)), (4, .pointer (some ⟨b4, 0, none⟩)), (5, .pointer (some ⟨b10, 0, none⟩)), (6, v26), (7, v24), (8, .func (.func 79) #[] #[.pointer (some ⟨b10, 0, none⟩)]), (9, .func (.func 80) #[] #[.pointer (some ⟨b3, 0, none⟩)]), (11, .pointer (some ⟨b55, 0, none⟩)), (12, I 0), (13, I x57), (14, .bool b76), (25, h1), (26, I (a1.length : Int)), (27, I x29)] (Bx b55 106 [I x53.1, I x53.2.1, I x53.2.2.1, I x53.2.2.2] :: OwnS 28 1 v20 (y22.map cI) :: OwnS 4 1 v24 (y23.map cB) :: OwnS 4 1 v26 (y25.map cB) :: Bx b10 93 [v20, v28] :: OwnS 3 1 v28 (y27.map cI) :: Bx b4 93 [.slice none 0 0, .slice none 0 0] :: Bx b3 3 [I a0] :: L) a w) ?_ ?_ | refine TC.cutX (fun a w => Mid 260 B [(2, .pointer (some ⟨b3, 0, none⟩)), (4, .pointer (some ⟨b4, 0, none⟩)), (5, .pointer (some ⟨b10, 0, none⟩)), (6, v26), (7, v24), (8, .func (.func 79) #[] #[.pointer (some ⟨b10, 0, none⟩)]), (9, .func (.func 80) #[] #[.pointer (some ⟨b3, 0, none⟩)]), (11, .pointer (some ⟨b55, 0, none⟩)), (12, I 0), (13, I x57), (14, .bool b76), (25, h1), (26, I (a1.length : Int)), (27, I x29)] (Bx b55 106 [I x53.1, I x53.2.1, I x53.2.2.1, I x53.2.2.2] :: OwnS 28 1 v20 (y22.map cI) :: OwnS 4 1 v24 (y23.map cB) :: OwnS 4 1 v26 (y25.map cB) :: Bx b10 93 [v20, v28] :: OwnS 3 1 v28 (y27.map cI) :: Bx b4 93 [.slice none 0 0, .slice none 0 0] :: Bx b3 3 [I a0] :: L) a w) ?_ ?_
            · refine TC.cond rfl (fun hc78 => ?_) (fun hc78 => ?_)
              · replace hj77 := cond_t hc78 hj77
                refine TC.region ?_
                refine TO.s rfl rfl rfl (StepS.move rfl) ?_
                refine TO.s rfl rfl rfl (StepS.move rfl) ?_
                refine TO.mid1 5 85 (.bool (b68 || (x53.2.2.1 == x57))) ?_ ?_
                · refine bcase (b68) (fun hb79 => ?_) (fun hb79 => ?_)
                  · refine TO.skip rfl rfl rfl (skipT hb79) rfl rfl ?_
                    refine TO.skip rfl rfl rfl (skipT hb79) rfl rfl ?_
                    refine TO.skip rfl rfl rfl (skipT hb79) rfl rfl ?_
                    refine TO.skip rfl rfl rfl (skipT hb79) rfl rfl ?_
                    refine TO.s rfl rfl rfl (StepS.pickT rfl hb79 rfl) ?_
                    exact TO.up1 5 0 rfl rfl (by rw [hb79]; rfl) rfl
                  · refine TO.sw rfl rfl rfl hb79 rfl rfl (StepS.fld rfl kfieldB_106_2_2_true) ?_
                    refine TO.sw rfl rfl rfl hb79 rfl rfl (StepS.ldB rfl (Ent.at 0 rfl) kscalB_3_true rfl) ?_
                    refine TO.sw rfl rfl rfl hb79 rfl rfl (StepS.move rfl) ?_
                    refine TO.sw rfl rfl rfl hb79 rfl rfl (StepS.cmp rfl rfl rfl) ?_
                    refine TO.s rfl rfl rfl (StepS.pickF rfl hb79 rfl) ?_
                    exact TO.up1 5 0 rfl rfl (by rw [hb79]; rfl) rfl
                refine TO.s rfl rfl rfl (StepS.assign rfl) ?_
                cases hj77
                refine TO.nil fun a w e s => ?_
                exact ⟨e.sub (lk_of_allIn ⟨rfl, rfl, rfl, rfl, rfl, rfl, rfl, rfl, rfl, rfl, rfl, rfl, rfl, rfl, trivial⟩), s⟩
              · replace hj77 := cond_f hc78 hj77
                cases hj77
                refine TC.skip fun a w e s => ?_
                exact ⟨e.sub (lk_of_allIn ⟨rfl, rfl, rfl, rfl, rfl, rfl, rfl, rfl, rfl, rfl, rfl, rfl, rfl, rfl, trivial⟩), s⟩
            · intro a w ⟨he, hs⟩
              refine TC.use ?_ he hs
              refine TC.k ?_
              refine TC.k ?_
              refine TC.region ?_
              refine TO.s rfl rfl rfl (StepS.fld rfl kfieldB_106_0_0_true) ?_
              refine TO.s rfl rfl rfl (StepS.ldB rfl (Ent.at 0 rfl) kscalB_3_true rfl) ?_
              refine TO.s rfl rfl rfl (StepS.cmp rfl rfl rfl) ?_
              refine TO.s rfl rfl rfl (StepS.move rfl) ?_
              refine TO.mid1 4 93 (.bool ((decide (x53.1 < 1)) || (decide (x53.1 > 6)))) ?_ ?_
              · refine bcase ((decide (x53.1 < 1))) (fun hb80 => ?_) (fun hb80 => ?_)
                · refine TO.skip rfl rfl rfl (skipT hb80) rfl rfl ?_
                  refine TO.skip rfl rfl rfl (skipT hb80) rfl rfl ?_
                  refine TO.skip rfl rfl rfl (skipT hb80) rfl rfl ?_
                  refine TO.s rfl rfl rfl (StepS.pickT rfl hb80 rfl) ?_
                  exact TO.up1 4 0 rfl rfl (by rw [hb80]; rfl) rfl
                · refine TO.sw rfl rfl rfl hb80 rfl rfl (StepS.fld rfl kfieldB_106_0_0_true) ?_
                  refine TO.sw rfl rfl rfl hb80 rfl rfl (StepS.ldB rfl (Ent.at 0 rfl) kscalB_3_true rfl) ?_
                  refine TO.sw rfl rfl rfl hb80 rfl rfl (StepS.cmp rfl rfl rfl) ?_
                  refine TO.s rfl rfl rfl (StepS.pickF rfl hb80 rfl) ?_
                  exact TO.up1 4 0 rfl rfl (by rw [hb80]; rfl) rfl
              refine TO.code ?_
              obtain ⟨⟨y81, y83, y85, x87⟩, hj88, hb51⟩ := bind_some hb51
              first | refine TC.cutM (fun a w => ∃ v82 : Value, ∃ v84 : Value, ∃ v86 : Value, Mid 260 B [(2, .pointer (some ⟨b3, 0, none⟩)), (4, .pointer (some ⟨b4, 0, none⟩)), (5, .pointer (some ⟨b10, 0, none⟩)), (6, v84), (7, v82), (8, .func (.func 79) #[] #[.pointer (some ⟨b10, 0, none⟩)]), (9, .func (.func 80) #[] #[.pointer (some ⟨b3, 0, none⟩)]), (12, I x87), (25, h1), (26, I (a1.length : Int)), (27, I x29)] (Bx b55 106 [I x53.1, I x53.2.1, I x53.2.2.1, I x53.2.2.2] :: OwnS 28 1 v20 (y22.map cI) :: OwnS 4 1 v82 (y81.map cB) :: OwnS 4 1 v84 (y83.map cB) :: Bx b10 93 [v20, v86] :: OwnS 3 1 v86 (y85.map cI) :: Bx b4 93 [.slice none 0 0, .slice none 0 0] :: Bx b3 3 [I a0] :: L) a w) ?_ ?_ | refine TC.cutX (fun a w => ∃ v82 : Value, ∃ v84 : Value, ∃ v86 : Value, Mid 260 B [(2, .pointer (some ⟨b3, 0, none⟩)), (4, .pointer (some ⟨b4, 0, none⟩)), (5, .pointer (some ⟨b10, 0, none⟩)), (6, v84), (7, v82), (8, .func (.func 79) #[] #[.pointer (some ⟨b10, 0, none⟩)]), (9, .func (.func 80) #[] #[.pointer (some ⟨b3, 0, none⟩)]), (12, I x87), (25, h1), (26, I (a1.length : Int)), (27, I x29)] (Bx b55 106 [I x53.1, I x53.2.1, I x53.2.2.1, I x53.2.2.2] :: OwnS 28 1 v20 (y22.map cI) :: OwnS 4 1 v82 (y81.map cB) :: OwnS 4 1 v84 (y83.map cB) :: Bx b10 93 [v20, v86] :: OwnS 3 1 v86 (y85.map cI) :: Bx b4 93 [.slice none 0 0, .slice none 0 0] :: Bx b3 3 [I a0] :: L) a w) ?_ ?_
              · refine TC.cond rfl (fun hc89 => ?_) (fun hc89 => ?_)
                · replace hj88 := cond_t hc89 hj88
                  refine TC.region ?_
                  refine TO.s rfl rfl rfl (StepS.assign rfl) ?_
                  cases hj88
                  refine TO.nil fun a w e s => ?_
                  exact ⟨v24, v26, v28, e.sub (lk_of_allIn ⟨rfl, rfl, rfl, rfl, rfl, rfl, rfl, rfl, rfl, rfl, rfl, trivial⟩), s⟩
                · replace hj88 := cond_f hc89 hj88
                  refine TC.k ?_
                  refine TC.region ?_
                  refine TO.s rfl rfl rfl (StepS.move rfl) ?_
                  refine TO.code ?_
                  refine TC.cond rfl (fun hc90 => ?_) (fun hc90 => ?_)
                  · replace hj88 := cond_t hc90 hj88
                    refine TC.region ?_
                    refine TO.s rfl rfl rfl (StepS.assign rfl) ?_
                    cases hj88
                    refine TO.nil fun a w e s => ?_
                    exact ⟨v24, v26, v28, e.sub (lk_of_allIn ⟨rfl, rfl, rfl, rfl, rfl, rfl, rfl, rfl, rfl, rfl, rfl, trivial⟩), s⟩
                  · replace hj88 := cond_f hc90 hj88
                    refine TC.k ?_
                    refine TC.region ?_
                    refine TO.s rfl rfl rfl (StepS.fld rfl kfieldB_106_0_0_true) ?_
                    refine TO.s rfl rfl rfl (StepS.ldB rfl (Ent.at 0 rfl) kscalB_3_true rfl) ?_
                    refine TO.s rfl rfl rfl (StepS.cmp rfl rfl rfl) ?_
                    refine TO.code ?_
                    refine TC.cond rfl (fun hc91 => ?_) (fun hc91 => ?_)
                    · replace hj88 := cond_t hc91 hj88
                      refine TC.k ?_
                      refine TC.region ?_
                      refine TO.s rfl rfl rfl (StepS.move rfl) ?_
                      refine TO.s rfl rfl rfl (StepS.move rfl) ?_
                      obtain ⟨x92, hx93, hj88⟩ := bind_some hj88
                      refine TO.s rfl rfl rfl (StepS.idx rfl rfl (OwnS.rd (Ent.at 3 rfl)) ksliceB_115_4_1_true (idx_spec hx93).1 (idxm_lt hx93)) ?_
                      refine TO.s rfl rfl rfl (StepS.ld0 rfl (OwnS.rd (Ent.at 3 rfl)) kscalB_4_true rfl (idxm hx93) rfl) ?_
                      refine TO.s rfl rfl rfl (StepS.not rfl) ?_
                      refine TO.code ?_
                      refine TC.cond rfl (fun hc94 => ?_) (fun hc94 => ?_)
                      · replace hj88 := cond_t hc94 hj88
                        refine TC.region ?_
                        refine TO.s rfl rfl rfl (StepS.assign rfl) ?_
                        cases hj88
                        refine TO.nil fun a w e s => ?_
                        exact ⟨v24, v26, v28, e.sub (lk_of_allIn ⟨rfl, rfl, rfl, rfl, rfl, rfl, rfl, rfl, rfl, rfl, rfl, trivial⟩), s⟩
                      · replace hj88 := cond_f hc94 hj88
                        refine TC.k ?_
                        refine TC.region ?_
                        refine TO.s rfl rfl rfl (StepS.move rfl) ?_
                        refine TO.s rfl rfl rfl (StepS.move rfl) ?_
                        obtain ⟨x95, hx96, hj88⟩ := bind_some hj88
                        refine TO.s rfl rfl rfl (StepS.idx rfl rfl (OwnS.rd (Ent.at 3 rfl)) ksliceB_115_4_1_true (idx_spec hx96).1 (idxm_lt hx96)) ?_
                        refine TO.stO (i := x57.toNat) (off := 0) (us := [.bool false]) 3 false rfl rfl rfl ksizeB_4_1_true rfl rfl rfl (idx_spec hx96).2 rfl (by simp [Value.oneCell']) rfl ?_
                        refine TO.code ?_
                        refine TC.k ?_
                        refine TC.region ?_
                        refine TO.s rfl rfl rfl (StepS.move rfl) ?_
                        refine TO.s rfl rfl rfl (StepS.cmp rfl rfl rfl) ?_
                        refine TO.s rfl rfl rfl (StepS.move rfl) ?_
                        obtain ⟨b98, hj99, hj88⟩ := bind_some hj88
                        refine TO.mid1 4 112 (.bool b98) ?_ ?_
                        · refine bcase ((x57 == 0)) (fun hb97 => ?_) (fun hb97 => ?_)
                          · replace hj99 := cond_t hb97 hj99
                            refine TO.sw rfl rfl rfl hb97 rfl rfl (StepS.move rfl) ?_
                            obtain ⟨r100, hc101, hj99⟩ := bind_some hj99
                            refine TO.qw rfl rfl rfl hb97 rfl rfl (StepQ.callC kcallB_79_true rfl rfl rfl (fun _ st => C79 (a1 := (y22, y27)) (Ent.at 4 rfl) (OwnS.rd (Ent.at 1 rfl)) (OwnS.rd (Ent.at 5 rfl)) hc101 st)) ?_
                            refine TO.sw rfl rfl rfl hb97 rfl rfl (StepS.not rfl) ?_
                            cases hj99
                            refine TO.s rfl rfl rfl (StepS.pickT rfl hb97 rfl) ?_
                            exact TO.up1 4 0 rfl rfl rfl rfl
                          · replace hj99 := cond_f hb97 hj99
                            cases hj99
                            refine TO.skip rfl rfl rfl (skipF hb97) rfl rfl ?_
                            refine TO.skip rfl rfl rfl (skipF hb97) rfl rfl ?_
                            refine TO.skip rfl rfl rfl (skipF hb97) rfl rfl ?_
                            refine TO.s rfl rfl rfl (StepS.pickF rfl hb97 rfl) ?_
                            exact TO.up1 4 0 rfl rfl rfl rfl
                        refine TO.code ?_
                        refine TC.cond rfl (fun hc102 => ?_) (fun hc102 => ?_)
                        · replace hj88 := cond_t hc102 hj88
                          refine TC.region ?_
                          refine TO.s rfl rfl rfl (StepS.fld rfl kfieldB_93_1_1_true) ?_
                          refine TO.s rfl rfl rfl (StepS.ldB rfl (Ent.at 4 rfl) kscalB_22_true rfl) ?_
                          obtain ⟨x103, hx104, hj88⟩ := bind_some hj88
                          refine TO.s rfl rfl rfl (StepS.idx rfl rfl (OwnS.rd (Ent.at 5 rfl)) ksliceB_22_3_1_true (idx_spec hx104).1 (idxm_lt hx104)) ?_
                          refine TO.stO (i := (0 : Int).toNat) (off := 0) (us := [I 3]) 5 3 rfl rfl rfl ksizeB_3_1_true rfl rfl rfl (idx_spec hx104).2 rfl (by simp [Value.oneCell']) rfl ?_
                          cases hj88
                          refine TO.nil fun a w e s => ?_
                          exact ⟨v24, v26, v28, e.sub (lk_of_allIn ⟨rfl, rfl, rfl, rfl, rfl, rfl, rfl, rfl, rfl, rfl, rfl, trivial⟩), s⟩
                        · replace hj88 := cond_f hc102 hj88
                          cases hj88
                          refine TC.skip fun a w e s => ?_
                          exact ⟨v24, v26, v28, e.sub (lk_of_allIn ⟨rfl, rfl, rfl, rfl, rfl, rfl, rfl, rfl, rfl, rfl, rfl, trivial⟩), s⟩
                    · replace hj88 := cond_f hc91 hj88
                      refine TC.k ?_
                      refine TC.region ?_
                      refine TO.s rfl rfl rfl (StepS.fld rfl kfieldB_106_0_0_true) ?_
                      refine TO.s rfl rfl rfl (StepS.ldB rfl (Ent.at 0 rfl) kscalB_3_true rfl) ?_
                      refine TO.s rfl rfl rfl (StepS.cmp rfl rfl rfl) ?_
                      refine TO.code ?_
                      refine TC.cond rfl (fun hc105 => ?_) (fun hc105 => ?_)
                      · replace hj88 := cond_t hc105 hj88
                        refine TC.k ?_
                        refine TC.k ?_
                        refine TC.region ?_
                        refine TO.s rfl rfl rfl (StepS.move rfl) ?_
                        refine TO.s rfl rfl rfl (StepS.move rfl) ?_
                        obtain ⟨x106, hx107, hj88⟩ := bind_some hj88
                        refine TO.s rfl rfl rfl (StepS.idx rfl rfl (OwnS.rd (Ent.at 3 rfl)) ksliceB_115_4_1_true (idx_spec hx107).1 (idxm_lt hx107)) ?_
                        refine TO.s rfl rfl rfl (StepS.ld0 rfl (OwnS.rd (Ent.at 3 rfl)) kscalB_4_true rfl (idxm hx107) rfl) ?_
                        refine TO.code ?_
                        obtain ⟨x108, hj109, hj88⟩ := bind_some hj88
                        first | refine TC.cutM (fun a w => Mid 260 B [(2, .pointer (some ⟨b3, 0, none⟩)), (4, .pointer (some ⟨b4, 0, none⟩)), (5, .pointer (some ⟨b10, 0, none⟩)), (6, v26), (7, v24), (8, .func (.func 79) #[] #[.pointer (some ⟨b10, 0, none⟩)]), (9, .func (.func 80) #[] #[.pointer (some ⟨b3, 0, none⟩)]), (12, I x108), (13, I x57), (25, h1), (26, I (a1.length : Int)), (27, I x29)] (Bx b55 106 [I x53.1, I x53.2.1, I x53.2.2.1, I x53.2.2.2] :: OwnS 28 1 v20 (y22.map cI) :: OwnS 4 1 v24 (y23.map cB) :: OwnS 4 1 v26 (y25.map cB) :: Bx b10 93 [v20, v28] :: OwnS 3 1 v28 (y27.map cI) :: Bx b4 93 [.slice none 0 0, .slice none 0 0] :: Bx b3 3 [I a0] :: L) a w) ?_ ?_ | refine TC.cutX (fun a w => Mid 260 B [(2, .pointer (some ⟨b3, 0, none⟩)), (4, .pointer (some ⟨b4, 0, none⟩)), (5, .pointer (some ⟨b10, 0, none⟩)), (6, v26), (7, v24), (8, .func (.func 79) #[] #[.pointer (some ⟨b10, 0, none⟩)]), (9, .func (.func 80) #[] #[.pointer (some ⟨b3, 0, none⟩)]), (12, I x108), (13, I x57), (25, h1), (26, I (a1.length : Int)), (27, I x29)] (Bx b55 106 [I x53.1, I x53.2.1, I x53.2.2.1, I x53.2.2.2] :: OwnS 28 1 v20 (y22.map cI) :: OwnS 4 1 v24 (y23.map cB) :: OwnS 4 1 v26 (y25.map cB) :: Bx b10 93 [v20, v28] :: OwnS 3 1 v28 (y27.map cI) :: Bx b4 93 [.slice none 0 0, .slice none 0 0] :: Bx b3 3 [I a0] :: L) a w) ?_ ?_
                        · refine TC.cond rfl (fun hc110 => ?_) (fun hc110 => ?_)
                          · replace hj109 := cond_t hc110 hj109
                            refine TC.region ?_
                            refine TO.s rfl rfl rfl (StepS.assign rfl) ?_
                            cases hj109
                            refine TO.nil fun a w e s => ?_
                            exact ⟨e.sub (lk_of_allIn ⟨rfl, rfl, rfl, rfl, rfl, rfl, rfl, rfl, rfl, rfl, rfl, rfl, trivial⟩), s⟩
                          · replace hj109 := cond_f hc110 hj109
                            cases hj109
                            refine TC.skip fun a w e s => ?_
                            exact ⟨e.sub (lk_of_allIn ⟨rfl, rfl, rfl, rfl, rfl, rfl, rfl, rfl, rfl, rfl, rfl, rfl, trivial⟩), s⟩
                        · intro a w ⟨he, hs⟩
                          refine TC.use ?_ he hs
                          refine TC.region ?_
                          refine TO.s rfl rfl rfl (StepS.move rfl) ?_
                          refine TO.s rfl rfl rfl (StepS.move rfl) ?_
                          obtain ⟨x111, hx112, hj88⟩ := bind_some hj88
                          refine TO.s rfl rfl rfl (StepS.idx rfl rfl (OwnS.rd (Ent.at 3 rfl)) ksliceB_115_4_1_true (idx_spec hx112).1 (idxm_lt hx112)) ?_
                          refine TO.stO (i := x57.toNat) (off := 0) (us := [.bool true]) 3 true rfl rfl rfl ksizeB_4_1_true rfl rfl rfl (idx_spec hx112).2 rfl (by simp [Value.oneCell']) rfl ?_
                          cases hj88
                          refine TO.nil fun a w e s => ?_
                          exact ⟨v24, v26, v28, e.sub (lk_of_allIn ⟨rfl, rfl, rfl, rfl, rfl, rfl, rfl, rfl, rfl, rfl, rfl, trivial⟩), s⟩
                      · replace hj88 := cond_f hc105 hj88
                        refine TC.k ?_
                        refine TC.region ?_
                        refine TO.s rfl rfl rfl (StepS.move rfl) ?_
                        refine TO.s rfl rfl rfl (StepS.move rfl) ?_
                        obtain ⟨x113, hx114, hj88⟩ := bind_some hj88
                        refine TO.s rfl rfl rfl (StepS.idx rfl rfl (OwnS.rd (Ent.at 3 rfl)) ksliceB_115_4_1_true (idx_spec hx114).1 (idxm_lt hx114)) ?_
                        refine TO.s rfl rfl rfl (StepS.ld0 rfl (OwnS.rd (Ent.at 3 rfl)) kscalB_4_true rfl (idxm hx114) rfl) ?_
                        refine TO.s rfl rfl rfl (StepS.move rfl) ?_
                        obtain ⟨b116, hj117, hj88⟩ := bind_some hj88
                        refine TO.mid1 16 146 (.bool b116) ?_ ?_
                        · refine bcase (x113) (fun hb115 => ?_) (fun hb115 => ?_)
                          · replace hj117 := cond_t hb115 hj117
                            cases hj117
                            refine TO.skip rfl rfl rfl (skipT hb115) rfl rfl ?_
                            refine TO.skip rfl rfl rfl (skipT hb115) rfl rfl ?_
                            refine TO.skip rfl rfl rfl (skipT hb115) rfl rfl ?_
                            refine TO.skip rfl rfl rfl (skipT hb115) rfl rfl ?_
                            refine TO.skip rfl rfl rfl skipU rfl rfl ?_
                            refine TO.skip rfl rfl rfl skipU rfl rfl ?_
                            refine TO.skip rfl rfl rfl skipU rfl rfl ?_
                            refine TO.skip rfl rfl rfl (skipT hb115) rfl rfl ?_
                            refine TO.skip rfl rfl rfl (skipT hb115) rfl rfl ?_
                            refine TO.skip rfl rfl rfl skipU rfl rfl ?_
                            refine TO.skip rfl rfl rfl skipU rfl rfl ?_
                            refine TO.skip rfl rfl rfl skipU rfl rfl ?_
                            refine TO.skip rfl rfl rfl skipU rfl rfl ?_
                            refine TO.skip rfl rfl rfl skipU rfl rfl ?_
                            refine TO.skip rfl rfl rfl (skipT hb115) rfl rfl ?_
                            refine TO.s rfl rfl rfl (StepS.pickT rfl hb115 rfl) ?_
                            exact TO.up1 16 0 rfl rfl rfl rfl
                          · replace hj117 := cond_f hb115 hj117
                            refine TO.sw rfl rfl rfl hb115 rfl rfl (StepS.fld rfl kfieldB_106_0_0_true) ?_
                            refine TO.sw rfl rfl rfl hb115 rfl rfl (StepS.ldB rfl (Ent.at 0 rfl) kscalB_3_true rfl) ?_
                            refine TO.sw rfl rfl rfl hb115 rfl rfl (StepS.cmp rfl rfl rfl) ?_
                            refine TO.sw rfl rfl rfl hb115 rfl rfl (StepS.move rfl) ?_
                            refine TO.mid1 4 138 (.bool ((x53.1 == 3) || (x53.1 == 6))) ?_ ?_
                            · refine bcase ((x53.1 == 3)) (fun hb118 => ?_) (fun hb118 => ?_)
                              · refine TO.skip rfl rfl rfl (skipT hb118) rfl rfl ?_
                                refine TO.skip rfl rfl rfl (skipT hb118) rfl rfl ?_
                                refine TO.skip rfl rfl rfl (skipT hb118) rfl rfl ?_
                                refine TO.sw rfl rfl rfl hb115 rfl rfl (StepS.pickT rfl hb118 rfl) ?_
                                exact TO.up1 4 0 rfl rfl (by rw [hb118]; rfl) rfl
                              · refine TO.sw rfl rfl rfl hb118 rfl rfl (StepS.fld rfl kfieldB_106_0_0_true) ?_
                                refine TO.sw rfl rfl rfl hb118 rfl rfl (StepS.ldB rfl (Ent.at 0 rfl) kscalB_3_true rfl) ?_
                                refine TO.sw rfl rfl rfl hb118 rfl rfl (StepS.cmp rfl rfl rfl) ?_
                                refine TO.sw rfl rfl rfl hb115 rfl rfl (StepS.pickF rfl hb118 rfl) ?_
                                exact TO.up1 4 0 rfl rfl (by rw [hb118]; rfl) rfl
                            refine TO.sw rfl rfl rfl hb115 rfl rfl (StepS.move rfl) ?_
                            obtain ⟨b120, hj121, hj117⟩ := bind_some hj117
                            refine TO.mid1 6 145 (.bool b120) ?_ ?_
                            · refine bcase (((x53.1 == 3) || (x53.1 == 6))) (fun hb119 => ?_) (fun hb119 => ?_)
                              · replace hj121 := cond_t hb119 hj121
                                refine TO.sw rfl rfl rfl hb119 rfl rfl (StepS.move rfl) ?_
                                refine TO.sw rfl rfl rfl hb119 rfl rfl (StepS.fld rfl kfieldB_106_2_2_true) ?_
                                refine TO.sw rfl rfl rfl hb119 rfl rfl (StepS.ldB rfl (Ent.at 0 rfl) kscalB_3_true rfl) ?_
                                obtain ⟨x122, hx123, hj121⟩ := bind_some hj121
                                refine TO.sw rfl rfl rfl hb119 rfl rfl (StepS.idx rfl rfl (OwnS.rd (Ent.at 3 rfl)) ksliceB_115_4_1_true (idx_spec hx123).1 (idxm_lt hx123)) ?_
                                refine TO.sw rfl rfl rfl hb119 rfl rfl (StepS.ld0 rfl (OwnS.rd (Ent.at 3 rfl)) kscalB_4_true rfl (idxm hx123) rfl) ?_
                                cases hj121
                                refine TO.sw rfl rfl rfl hb115 rfl rfl (StepS.pickT rfl hb119 rfl) ?_
                                exact TO.up1 6 0 rfl rfl rfl rfl
                              · replace hj121 := cond_f hb119 hj121
                                cases hj121
                                refine TO.skip rfl rfl rfl (skipF hb119) rfl rfl ?_
                                refine TO.skip rfl rfl rfl (skipF hb119) rfl rfl ?_
                                refine TO.skip rfl rfl rfl (skipF hb119) rfl rfl ?_
                                refine TO.skip rfl rfl rfl (skipF hb119) rfl rfl ?_
                                refine TO.skip rfl rfl rfl (skipF hb119) rfl rfl ?_
                                refine TO.sw rfl rfl rfl hb115 rfl rfl (StepS.pickF rfl hb119 rfl) ?_
                                exact TO.up1 6 0 rfl rfl rfl rfl
                            cases hj117
                            refine TO.s rfl rfl rfl (StepS.pickF rfl hb115 rfl) ?_
                            exact TO.up1 8 0 rfl rfl rfl rfl
                        refine TO.code ?_
                        refine TC.cond rfl (fun hc124 => ?_) (fun hc124 => ?_)
                        · replace hj88 := cond_t hc124 hj88
                          refine TC.region ?_
                          refine TO.s rfl rfl rfl (StepS.assign rfl) ?_
                          cases hj88
                          refine TO.nil fun a w e s => ?_
                          exact ⟨v24, v26, v28, e.sub (lk_of_allIn ⟨rfl, rfl, rfl, rfl, rfl, rfl, rfl, rfl, rfl, rfl, rfl, trivial⟩), s⟩
                        · replace hj88 := cond_f hc124 hj88
                          refine TC.k ?_
                          refine TC.region ?_
                          refine TO.s rfl rfl rfl (StepS.fld rfl kfieldB_106_0_0_true) ?_
                          refine TO.s rfl rfl rfl (StepS.ldB rfl (Ent.at 0 rfl) kscalB_3_true rfl) ?_
                          refine TO.s rfl rfl rfl (StepS.cmp rfl rfl rfl) ?_
                          refine TO.code ?_
                          refine TC.cond rfl (fun hc125 => ?_) (fun hc125 => ?_)
                          · replace hj88 := cond_t hc125 hj88
                            refine TC.k ?_
                            refine TC.region ?_
                            refine TO.s rfl rfl rfl (StepS.fld rfl kfieldB_93_1_1_true) ?_
                            refine TO.s rfl rfl rfl (StepS.ldB rfl (Ent.at 4 rfl) kscalB_22_true rfl) ?_
                            refine TO.s rfl rfl rfl (StepS.move rfl) ?_
                            obtain ⟨x126, hx127, hj88⟩ := bind_some hj88
                            refine TO.s rfl rfl rfl (StepS.idx rfl rfl (OwnS.rd (Ent.at 5 rfl)) ksliceB_22_3_1_true (idx_spec hx127).1 (idxm_lt hx127)) ?_
                            refine TO.s rfl rfl rfl (StepS.ld0 rfl (OwnS.rd (Ent.at 5 rfl)) kscalB_3_true rfl (idxm hx127) rfl) ?_
                            refine TO.s rfl rfl rfl (StepS.cmp rfl rfl rfl) ?_
                            refine TO.code ?_
                            refine TC.cond rfl (fun hc128 => ?_) (fun hc128 => ?_)
                            · replace hj88 := cond_t hc128 hj88
                              refine TC.region ?_
                              refine TO.s rfl rfl rfl (StepS.assign rfl) ?_
                              cases hj88
                              refine TO.nil fun a w e s => ?_
                              exact ⟨v24, v26, v28, e.sub (lk_of_allIn ⟨rfl, rfl, rfl, rfl, rfl, rfl, rfl, rfl, rfl, rfl, rfl, trivial⟩), s⟩
                            · replace hj88 := cond_f hc128 hj88
                              refine TC.k ?_
                              refine TC.region ?_
                              refine TO.s rfl rfl rfl (StepS.fld rfl kfieldB_106_3_3_true) ?_
                              refine TO.s rfl rfl rfl (StepS.ldB rfl (Ent.at 0 rfl) kscalB_3_true rfl) ?_
                              refine TO.s rfl rfl rfl (StepS.cmp rfl rfl rfl) ?_
                              refine TO.code ?_
                              refine TC.cond rfl (fun hc129 => ?_) (fun hc129 => ?_)
                              · replace hj88 := cond_t hc129 hj88
                                refine TC.k ?_
                                refine TC.region ?_
                                refine TO.s rfl rfl rfl (StepS.fld rfl kfieldB_93_1_1_true) ?_
                                refine TO.s rfl rfl rfl (StepS.ldB rfl (Ent.at 4 rfl) kscalB_22_true rfl) ?_
                                refine TO.s rfl rfl rfl (StepS.move rfl) ?_
                                obtain ⟨x130, hx131, hj88⟩ := bind_some hj88
                                refine TO.s rfl rfl rfl (StepS.idx rfl rfl (OwnS.rd (Ent.at 5 rfl)) ksliceB_22_3_1_true (idx_spec hx131).1 (idxm_lt hx131)) ?_
                                refine TO.stO (i := x57.toNat) (off := 0) (us := [I 1]) 5 1 rfl rfl rfl ksizeB_3_1_true rfl rfl rfl (idx_spec hx131).2 rfl (by simp [Value.oneCell']) rfl ?_
                                refine TO.code ?_
                                refine TC.region ?_
                                refine TO.s rfl rfl rfl (StepS.move rfl) ?_
                                refine TO.s rfl rfl rfl (StepS.move rfl) ?_
                                refine TO.s rfl rfl rfl (StepS.move rfl) ?_
                                obtain ⟨x132, hx133, hj88⟩ := bind_some hj88
                                refine TO.s rfl rfl rfl (StepS.idx rfl rfl (OwnS.rd (Ent.at 3 rfl)) ksliceB_115_4_1_true (idx_spec hx133).1 (idxm_lt hx133)) ?_
                                refine TO.s rfl rfl rfl (StepS.ld0 rfl (OwnS.rd (Ent.at 3 rfl)) kscalB_4_true rfl (idxm hx133) rfl) ?_
                                refine TO.s rfl rfl rfl (StepS.not rfl) ?_
                                obtain ⟨x134, hx135, hj88⟩ := bind_some hj88
                                refine TO.s rfl rfl rfl (StepS.idx rfl rfl (OwnS.rd (Ent.at 2 rfl)) ksliceB_115_4_1_true (idx_spec hx135).1 (idxm_lt hx135)) ?_
                                refine TO.stO (i := x57.toNat) (off := 0) (us := [.bool (!x132)]) 2 (!x132) rfl rfl rfl ksizeB_4_1_true rfl rfl rfl (idx_spec hx135).2 rfl (by simp [Value.oneCell']) rfl ?_
                                cases hj88
                                refine TO.nil fun a w e s => ?_
                                exact ⟨v24, v26, v28, e.sub (lk_of_allIn ⟨rfl, rfl, rfl, rfl, rfl, rfl, rfl, rfl, rfl, rfl, rfl, trivial⟩), s⟩
                              · replace hj88 := cond_f hc129 hj88
                                refine TC.region ?_
                                refine TO.s rfl rfl rfl (StepS.fld rfl kfieldB_93_1_1_true) ?_
                                refine TO.s rfl rfl rfl (StepS.ldB rfl (Ent.at 4 rfl) kscalB_22_true rfl) ?_
                                refine TO.s rfl rfl rfl (StepS.move rfl) ?_
                                obtain ⟨x136, hx137, hj88⟩ := bind_some hj88
                                refine TO.s rfl rfl rfl (StepS.idx rfl rfl (OwnS.rd (Ent.at 5 rfl)) ksliceB_22_3_1_true (idx_spec hx137).1 (idxm_lt hx137)) ?_
                                refine TO.stO (i := x57.toNat) (off := 0) (us := [I 3]) 5 3 rfl rfl rfl ksizeB_3_1_true rfl rfl rfl (idx_spec hx137).2 rfl (by simp [Value.oneCell']) rfl ?_
                                cases hj88
                                refine TO.nil fun a w e s => ?_
                                exact ⟨v24, v26, v28, e.sub (lk_of_allIn ⟨rfl, rfl, rfl, rfl, rfl, rfl, rfl, rfl, rfl, rfl, rfl, trivial⟩), s⟩
                          · replace hj88 := cond_f hc125 hj88
                            refine TC.k ?_
                            refine TC.region ?_
                            refine TO.s rfl rfl rfl (StepS.fld rfl kfieldB_106_0_0_true) ?_
                            refine TO.s rfl rfl rfl (StepS.ldB rfl (Ent.at 0 rfl) kscalB_3_true rfl) ?_
                            refine TO.s rfl rfl rfl (StepS.cmp rfl rfl rfl) ?_
                            refine TO.code ?_
                            refine TC.cond rfl (fun hc138 => ?_) (fun hc138 => ?_)
                            · replace hj88 := cond_t hc138 hj88
                              refine TC.k ?_
                              refine TC.region ?_
                              refine TO.s rfl rfl rfl (StepS.move rfl) ?_
                              obtain ⟨r139, hc140, hj88⟩ := bind_some hj88
                              refine TO.q rfl rfl rfl (StepQ.callC kcallB_79_true rfl rfl rfl (fun _ st => C79 (a1 := (y22, y27)) (Ent.at 4 rfl) (OwnS.rd (Ent.at 1 rfl)) (OwnS.rd (Ent.at 5 rfl)) hc140 st)) ?_
                              refine TO.code ?_
                              refine TC.cond rfl (fun hc141 => ?_) (fun hc141 => ?_)
                              · replace hj88 := cond_t hc141 hj88
                                refine TC.region ?_
                                refine TO.s rfl rfl rfl (StepS.assign rfl) ?_
                                cases hj88
                                refine TO.nil fun a w e s => ?_
                                exact ⟨v24, v26, v28, e.sub (lk_of_allIn ⟨rfl, rfl, rfl, rfl, rfl, rfl, rfl, rfl, rfl, rfl, rfl, trivial⟩), s⟩
                              · replace hj88 := cond_f hc141 hj88
                                refine TC.k ?_
                                refine TC.region ?_
                                refine TO.s rfl rfl rfl (StepS.fld rfl kfieldB_93_1_1_true) ?_
                                refine TO.s rfl rfl rfl (StepS.ldB rfl (Ent.at 4 rfl) kscalB_22_true rfl) ?_
                                obtain ⟨x142, hx143, hj88⟩ := bind_some hj88
                                refine TO.s rfl rfl rfl (StepS.idx rfl rfl (OwnS.rd (Ent.at 5 rfl)) ksliceB_22_3_1_true (idx_spec hx143).1 (idxm_lt hx143)) ?_
                                refine TO.stO (i := (0 : Int).toNat) (off := 0) (us := [I 2]) 5 2 rfl rfl rfl ksizeB_3_1_true rfl rfl rfl (idx_spec hx143).2 rfl (by simp [Value.oneCell']) rfl ?_
                                refine TO.code ?_
                                refine TC.k ?_
                                refine TC.region ?_
                                refine TO.s rfl rfl rfl (StepS.assign rfl) ?_
                                refine TO.code ?_
                                obtain ⟨o152, hw153, hj88⟩ := bind_some hj88
                                refine TC.loop hw153 (fun (y144, x146) => fun a w => ∃ v145 : Value, Mid 260 B [(2, .pointer (some ⟨b3, 0, none⟩)), (4, .pointer (some ⟨b4, 0, none⟩)), (5, .pointer (some ⟨b10, 0, none⟩)), (6, v26), (7, v24), (8, .func (.func 79) #[] #[.pointer (some ⟨b10, 0, none⟩)]), (9, .func (.func 80) #[] #[.pointer (some ⟨b3, 0, none⟩)]), (12, I 0), (15, I x146), (25, h1), (26, I (a1.length : Int)), (27, I x29)] (Bx b55 106 [I x53.1, I x53.2.1, I x53.2.2.1, I x53.2.2.2] :: OwnS 28 1 v20 (y22.map cI) :: OwnS 4 1 v24 (y23.map cB) :: OwnS 4 1 v26 (y25.map cB) :: Bx b10 93 [v20, v145] :: OwnS 3 1 v145 (y144.map cI) :: Bx b4 93 [.slice none 0 0, .slice none 0 0] :: Bx b3 3 [I a0] :: L) a w) (fun y150 => fun a w => ∃ v151 : Value, Mid 260 B [(2, .pointer (some ⟨b3, 0, none⟩)), (4, .pointer (some ⟨b4, 0, none⟩)), (5, .pointer (some ⟨b10, 0, none⟩)), (6, v26), (7, v24), (8, .func (.func 79) #[] #[.pointer (some ⟨b10, 0, none⟩)]), (9, .func (.func 80) #[] #[.pointer (some ⟨b3, 0, none⟩)]), (12, I 0), (25, h1), (26, I (a1.length : Int)), (27, I x29)] (Bx b55 106 [I x53.1, I x53.2.1, I x53.2.2.1, I x53.2.2.2] :: OwnS 28 1 v20 (y22.map cI) :: OwnS 4 1 v24 (y23.map cB) :: OwnS 4 1 v26 (y25.map cB) :: Bx b10 93 [v20, v151] :: OwnS 3 1 v151 (y150.map cI) :: Bx b4 93 [.slice none 0 0, .slice none 0 0] :: Bx b3 3 [I a0] :: L) a w) (fun (_ : Unit) _ _ => False) ?_ ?_ ?_ ?_
                                · rintro ⟨y144, x146⟩ o152r hb154 a w ⟨v145, he, hs⟩
                                  dsimp only [F45_L1] at hb154
                                  refine TC.use ?_ he hs
                                  refine TC.k ?_
                                  refine TC.k ?_
                                  refine TC.region ?_
                                  refine TO.s rfl rfl rfl (StepS.move rfl) ?_
                                  refine TO.s rfl rfl rfl (StepS.ldB rfl (Ent.at 7 rfl) kscalB_3_true rfl) ?_
                                  refine TO.s rfl rfl rfl (StepS.cmp rfl rfl rfl) ?_
                                  refine TO.code ?_
                                  refine TC.cond rfl (fun hc155 => ?_) (fun hc155 => ?_)
                                  · replace hb154 := cond_t hc155 hb154
                                    refine TC.skipk ?_
                                    refine TC.k ?_
                                    obtain ⟨y156, hj158, hb154⟩ := bind_some hb154
                                    first | refine TC.cutM (fun a w => ∃ v157 : Value, Mid 260 B [(2, .pointer (some ⟨b3, 0, none⟩)), (4, .pointer (some ⟨b4, 0, none⟩)), (5, .pointer (some ⟨b10, 0, none⟩)), (6, v26), (7, v24), (8, .func (.func 79) #[] #[.pointer (some ⟨b10, 0, none⟩)]), (9, .func (.func 80) #[] #[.pointer (some ⟨b3, 0, none⟩)]), (12, I 0), (15, I x146), (25, h1), (26, I (a1.length : Int)), (27, I x29)] (Bx b55 106 [I x53.1, I x53.2.1, I x53.2.2.1, I x53.2.2.2] :: OwnS 28 1 v20 (y22.map cI) :: OwnS 4 1 v24 (y23.map cB) :: OwnS 4 1 v26 (y25.map cB) :: Bx b10 93 [v20, v157] :: OwnS 3 1 v157 (y156.map cI) :: Bx b4 93 [.slice none 0 0, .slice none 0 0] :: Bx b3 3 [I a0] :: L) a w) ?_ ?_ | refine TC.cutX (fun a w => ∃ v157 : Value, Mid 260 B [(2, .pointer (some ⟨b3, 0, none⟩)), (4, .pointer (some ⟨b4, 0, none⟩)), (5, .pointer (some ⟨b10, 0, none⟩)), (6, v26), (7, v24), (8, .func (.func 79) #[] #[.pointer (some ⟨b10, 0, none⟩)]), (9, .func (.func 80) #[] #[.pointer (some ⟨b3, 0, none⟩)]), (12, I 0), (15, I x146), (25, h1), (26, I (a1.length : Int)), (27, I x29)] (Bx b55 106 [I x53.1, I x53.2.1, I x53.2.2.1, I x53.2.2.2] :: OwnS 28 1 v20 (y22.map cI) :: OwnS 4 1 v24 (y23.map cB) :: OwnS 4 1 v26 (y25.map cB) :: Bx b10 93 [v20, v157] :: OwnS 3 1 v157 (y156.map cI) :: Bx b4 93 [.slice none 0 0, .slice none 0 0] :: Bx b3 3 [I a0] :: L) a w) ?_ ?_
                                    · refine TC.block ?_
                                      refine TC.k ?_
                                      refine TC.region ?_
                                      refine TO.s rfl rfl rfl (StepS.move rfl) ?_
                                      refine TO.s rfl rfl rfl (StepS.move rfl) ?_
                                      obtain ⟨x159, hx160, hj158⟩ := bind_some hj158
                                      refine TO.s rfl rfl rfl (StepS.idx rfl rfl (OwnS.rd (Ent.at 2 rfl)) ksliceB_115_4_1_true (idx_spec hx160).1 (idxm_lt hx160)) ?_
                                      refine TO.s rfl rfl rfl (StepS.ld0 rfl (OwnS.rd (Ent.at 2 rfl)) kscalB_4_true rfl (idxm hx160) rfl) ?_
                                      refine TO.s rfl rfl rfl (StepS.not rfl) ?_
                                      refine TO.code ?_
                                      refine TC.cond rfl (fun hc161 => ?_) (fun hc161 => ?_)
                                      · replace hj158 := cond_t hc161 hj158
                                        refine TC.region ?_
                                        refine TO.s rfl rfl rfl (StepS.fld rfl kfieldB_93_1_1_true) ?_
                                        refine TO.s rfl rfl rfl (StepS.ldB rfl (Ent.at 4 rfl) kscalB_22_true rfl) ?_
                                        obtain ⟨x162, hx163, hj158⟩ := bind_some hj158
                                        refine TO.s rfl rfl rfl (StepS.idx rfl rfl (OwnS.rd (Ent.at 5 rfl)) ksliceB_22_3_1_true (idx_spec hx163).1 (idxm_lt hx163)) ?_
                                        refine TO.stO (i := (0 : Int).toNat) (off := 0) (us := [I 3]) 5 3 rfl rfl rfl ksizeB_3_1_true rfl rfl rfl (idx_spec hx163).2 rfl (by simp [Value.oneCell']) rfl ?_
                                        cases hj158
                                        refine TO.nil fun a w e s => ?_
                                        exact ⟨v145, e.sub (lk_of_allIn ⟨rfl, rfl, rfl, rfl, rfl, rfl, rfl, rfl, rfl, rfl, rfl, rfl, trivial⟩), s⟩
                                      · replace hj158 := cond_f hc161 hj158
                                        cases hj158
                                        refine TC.skip fun a w e s => ?_
                                        exact ⟨v145, e.sub (lk_of_allIn ⟨rfl, rfl, rfl, rfl, rfl, rfl, rfl, rfl, rfl, rfl, rfl, rfl, trivial⟩), s⟩
                                    · intro a w ⟨v157, he, hs⟩
                                      refine TC.use ?_ he hs
                                      refine TC.region ?_
                                      refine TO.s rfl rfl rfl (StepS.move rfl) ?_
                                      refine TO.s rfl rfl rfl (StepS.ari rfl rfl rfl) ?_
                                      refine TO.s rfl rfl rfl (StepS.assign rfl) ?_
                                      cases hb154
                                      refine TO.nil fun a w e s => ?_
                                      exact ⟨v157, e.sub (lk_of_allIn ⟨rfl, rfl, rfl, rfl, rfl, rfl, rfl, rfl, rfl, rfl, rfl, rfl, trivial⟩), s⟩
                                  · replace hb154 := cond_f hc155 hb154
                                    cases hb154
                                    refine TC.exit rfl fun a w e s => ?_
                                    exact ⟨v145, e.sub (lk_of_allIn ⟨rfl, rfl, rfl, rfl, rfl, rfl, rfl, rfl, rfl, rfl, rfl, trivial⟩), s⟩
                                · exact fun a w e s => ⟨v28, e.sub (lk_of_allIn ⟨rfl, rfl, rfl, rfl, rfl, rfl, rfl, rfl, rfl, rfl, rfl, rfl, trivial⟩), s⟩
                                · rintro y150 rfl a w ⟨v151, he, hs⟩
                                  dsimp only [Ctl.on] at hj88
                                  cases hj88
                                  have e := he; have s := hs
                                  exact ⟨v24, v26, v151, e.sub (lk_of_allIn ⟨rfl, rfl, rfl, rfl, rfl, rfl, rfl, rfl, rfl, rfl, rfl, trivial⟩), s⟩
                                · rintro r rfl
                                  exact fun a w h => h.elim
                            · replace hj88 := cond_f hc138 hj88
                              refine TC.k ?_
                              refine TC.region ?_
                              refine TO.s rfl rfl rfl (StepS.fld rfl kfieldB_106_0_0_true) ?_
                              refine TO.s rfl rfl rfl (StepS.ldB rfl (Ent.at 0 rfl) kscalB_3_true rfl) ?_
                              refine TO.s rfl rfl rfl (StepS.cmp rfl rfl rfl) ?_
                              refine TO.code ?_
                              refine TC.cond rfl (fun hc164 => ?_) (fun hc164 => ?_)
                              · replace hj88 := cond_t hc164 hj88
                                refine TC.k ?_
                                refine TC.region ?_
                                refine TO.s rfl rfl rfl (StepS.move rfl) ?_
                                obtain ⟨r165, hc166, hj88⟩ := bind_some hj88
                                refine TO.q rfl rfl rfl (StepQ.callC kcallB_79_true rfl rfl rfl (fun _ st => C79 (a1 := (y22, y27)) (Ent.at 4 rfl) (OwnS.rd (Ent.at 1 rfl)) (OwnS.rd (Ent.at 5 rfl)) hc166 st)) ?_
                                refine TO.s rfl rfl rfl (StepS.not rfl) ?_
                                refine TO.code ?_
                                refine TC.cond rfl (fun hc167 => ?_) (fun hc167 => ?_)
                                · replace hj88 := cond_t hc167 hj88
                                  refine TC.region ?_
                                  refine TO.s rfl rfl rfl (StepS.assign rfl) ?_
                                  cases hj88
                                  refine TO.nil fun a w e s => ?_
                                  exact ⟨v24, v26, v28, e.sub (lk_of_allIn ⟨rfl, rfl, rfl, rfl, rfl, rfl, rfl, rfl, rfl, rfl, rfl, trivial⟩), s⟩
                                · replace hj88 := cond_f hc167 hj88
                                  refine TC.k ?_
                                  refine TC.region ?_
                                  refine TO.s rfl rfl rfl (StepS.move rfl) ?_
                                  refine TO.s rfl rfl rfl (StepS.fld rfl kfieldB_106_2_2_true) ?_
                                  refine TO.s rfl rfl rfl (StepS.ldB rfl (Ent.at 0 rfl) kscalB_3_true rfl) ?_
                                  obtain ⟨r168, hc169, hj88⟩ := bind_some hj88
                                  refine TO.q rfl rfl rfl (StepQ.callC kcallB_79_true rfl rfl rfl (fun _ st => C79 (a1 := (y22, y27)) (Ent.at 4 rfl) (OwnS.rd (Ent.at 1 rfl)) (OwnS.rd (Ent.at 5 rfl)) hc169 st)) ?_
                                  refine TO.code ?_
                                  refine TC.cond rfl (fun hc170 => ?_) (fun hc170 => ?_)
                                  · replace hj88 := cond_t hc170 hj88
                                    refine TC.region ?_
                                    refine TO.s rfl rfl rfl (StepS.assign rfl) ?_
                                    cases hj88
                                    refine TO.nil fun a w e s => ?_
                                    exact ⟨v24, v26, v28, e.sub (lk_of_allIn ⟨rfl, rfl, rfl, rfl, rfl, rfl, rfl, rfl, rfl, rfl, rfl, trivial⟩), s⟩
                                  · replace hj88 := cond_f hc170 hj88
                                    refine TC.region_tail 9 kfollows_mixedOrders_true (by kernel_rfl) ?_
                                    refine TS.s rfl rfl rfl (StepS.fld rfl kfieldB_93_1_1_true) ?_
                                    refine TS.s rfl rfl rfl (StepS.ldB rfl (Ent.at 4 rfl) kscalB_22_true rfl) ?_
                                    refine TS.s rfl rfl rfl (StepS.fld rfl kfieldB_106_2_2_true) ?_
                                    refine TS.s rfl rfl rfl (StepS.ldB rfl (Ent.at 0 rfl) kscalB_3_true rfl) ?_
                                    refine TS.s rfl rfl rfl (StepS.fld rfl kfieldB_93_1_1_true) ?_
                                    refine TS.s rfl rfl rfl (StepS.ldB rfl (Ent.at 4 rfl) kscalB_22_true rfl) ?_
                                    obtain ⟨x171, hx172, hj88⟩ := bind_some hj88
                                    refine TS.s rfl rfl rfl (StepS.idx rfl rfl (OwnS.rd (Ent.at 5 rfl)) ksliceB_22_3_1_true (idx_spec hx172).1 (idxm_lt hx172)) ?_
                                    refine TS.s rfl rfl rfl (StepS.ld0 rfl (OwnS.rd (Ent.at 5 rfl)) kscalB_3_true rfl (idxm hx172) rfl) ?_
                                    obtain ⟨x173, hx174, hj88⟩ := bind_some hj88
                                    refine TS.s rfl rfl rfl (StepS.idx rfl rfl (OwnS.rd (Ent.at 5 rfl)) ksliceB_22_3_1_true (idx_spec hx174).1 (idxm_lt hx174)) ?_
                                    refine TS.nil ?_
                                    refine TO.at ?_
                                    refine TO.stO (i := x53.2.2.1.toNat) (off := 0) (us := [I x171]) 5 x171 rfl rfl rfl ksizeB_3_1_true rfl rfl rfl (idx_spec hx174).2 rfl (by simp [Value.oneCell']) rfl ?_
                                    cases hj88
                                    refine TO.nil fun a w e s => ?_
                                    exact ⟨v24, v26, v28, e.sub (lk_of_allIn ⟨rfl, rfl, rfl, rfl, rfl, rfl, rfl, rfl, rfl, rfl, rfl, trivial⟩), s⟩
                              · replace hj88 := cond_f hc164 hj88
                                refine TC.k ?_
                                refine TC.region ?_
                                refine TO.s rfl rfl rfl (StepS.fld rfl kfieldB_93_1_1_true) ?_
                                refine TO.s rfl rfl rfl (StepS.ldB rfl (Ent.at 4 rfl) kscalB_22_true rfl) ?_
                                refine TO.s rfl rfl rfl (StepS.move rfl) ?_
                                obtain ⟨x175, hx176, hj88⟩ := bind_some hj88
                                refine TO.s rfl rfl rfl (StepS.idx rfl rfl (OwnS.rd (Ent.at 5 rfl)) ksliceB_22_3_1_true (idx_spec hx176).1 (idxm_lt hx176)) ?_
                                refine TO.s rfl rfl rfl (StepS.ld0 rfl (OwnS.rd (Ent.at 5 rfl)) kscalB_3_true rfl (idxm hx176) rfl) ?_
                                refine TO.s rfl rfl rfl (StepS.cmp rfl rfl rfl) ?_
                                refine TO.code ?_
                                refine TC.cond rfl (fun hc177 => ?_) (fun hc177 => ?_)
                                · replace hj88 := cond_t hc177 hj88
                                  refine TC.region ?_
                                  refine TO.s rfl rfl rfl (StepS.assign rfl) ?_
                                  cases hj88
                                  refine TO.nil fun a w e s => ?_
                                  exact ⟨v24, v26, v28, e.sub (lk_of_allIn ⟨rfl, rfl, rfl, rfl, rfl, rfl, rfl, rfl, rfl, rfl, rfl, trivial⟩), s⟩
                                · replace hj88 := cond_f hc177 hj88
                                  refine TC.k ?_
                                  refine TC.region ?_
                                  refine TO.s rfl rfl rfl (StepS.move rfl) ?_
                                  refine TO.s rfl rfl rfl (StepS.move rfl) ?_
                                  obtain ⟨r178, hc179, hj88⟩ := bind_some hj88
                                  refine TO.q rfl rfl rfl (StepQ.callC kcallB_79_true rfl rfl rfl (fun _ st => C79 (a1 := (y22, y27)) (Ent.at 4 rfl) (OwnS.rd (Ent.at 1 rfl)) (OwnS.rd (Ent.at 5 rfl)) hc179 st)) ?_
                                  refine TO.code ?_
                                  refine TC.cond rfl (fun hc180 => ?_) (fun hc180 => ?_)
                                  · replace hj88 := cond_t hc180 hj88
                                    refine TC.region ?_
                                    refine TO.s rfl rfl rfl (StepS.assign rfl) ?_
                                    cases hj88
                                    refine TO.nil fun a w e s => ?_
                                    exact ⟨v24, v26, v28, e.sub (lk_of_allIn ⟨rfl, rfl, rfl, rfl, rfl, rfl, rfl, rfl, rfl, rfl, rfl, trivial⟩), s⟩
                                  · replace hj88 := cond_f hc180 hj88
                                    refine TC.k ?_
                                    refine TC.region ?_
                                    refine TO.s rfl rfl rfl (StepS.fld rfl kfieldB_93_1_1_true) ?_
                                    refine TO.s rfl rfl rfl (StepS.ldB rfl (Ent.at 4 rfl) kscalB_22_true rfl) ?_
                                    refine TO.s rfl rfl rfl (StepS.fld rfl kfieldB_106_2_2_true) ?_
                                    refine TO.s rfl rfl rfl (StepS.ldB rfl (Ent.at 0 rfl) kscalB_3_true rfl) ?_
                                    obtain ⟨x181, hx182, hj88⟩ := bind_some hj88
                                    refine TO.s rfl rfl rfl (StepS.idx rfl rfl (OwnS.rd (Ent.at 5 rfl)) ksliceB_22_3_1_true (idx_spec hx182).1 (idxm_lt hx182)) ?_
                                    refine TO.s rfl rfl rfl (StepS.ld0 rfl (OwnS.rd (Ent.at 5 rfl)) kscalB_3_true rfl (idxm hx182) rfl) ?_
                                    refine TO.s rfl rfl rfl (StepS.cmp rfl rfl rfl) ?_
                                    refine TO.code ?_
                                    refine TC.cond rfl (fun hc183 => ?_) (fun hc183 => ?_)
                                    · replace hj88 := cond_t hc183 hj88
                                      refine TC.region ?_
                                      refine TO.s rfl rfl rfl (StepS.assign rfl) ?_
                                      cases hj88
                                      refine TO.nil fun a w e s => ?_
                                      exact ⟨v24, v26, v28, e.sub (lk_of_allIn ⟨rfl, rfl, rfl, rfl, rfl, rfl, rfl, rfl, rfl, rfl, rfl, trivial⟩), s⟩
                                    · replace hj88 := cond_f hc183 hj88
                                      refine TC.k ?_
                                      refine TC.k ?_
                                      refine TC.region ?_
                                      refine TO.s rfl rfl rfl (StepS.fld rfl kfieldB_93_1_1_true) ?_
                                      refine TO.s rfl rfl rfl (StepS.ldB rfl (Ent.at 4 rfl) kscalB_22_true rfl) ?_
                                      refine TO.s rfl rfl rfl (StepS.fld rfl kfieldB_106_2_2_true) ?_
                                      refine TO.s rfl rfl rfl (StepS.ldB rfl (Ent.at 0 rfl) kscalB_3_true rfl) ?_
                                      obtain ⟨x184, hx185, hj88⟩ := bind_some hj88
                                      refine TO.s rfl rfl rfl (StepS.idx rfl rfl (OwnS.rd (Ent.at 5 rfl)) ksliceB_22_3_1_true (idx_spec hx185).1 (idxm_lt hx185)) ?_
                                      refine TO.s rfl rfl rfl (StepS.ld0 rfl (OwnS.rd (Ent.at 5 rfl)) kscalB_3_true rfl (idxm hx185) rfl) ?_
                                      refine TO.s rfl rfl rfl (StepS.cmp rfl rfl rfl) ?_
                                      refine TO.code ?_
                                      obtain ⟨y186, hj188, hj88⟩ := bind_some hj88
                                      first | refine TC.cutM (fun a w => ∃ v187 : Value, Mid 260 B [(2, .pointer (some ⟨b3, 0, none⟩)), (4, .pointer (some ⟨b4, 0, none⟩)), (5, .pointer (some ⟨b10, 0, none⟩)), (6, v26), (7, v24), (8, .func (.func 79) #[] #[.pointer (some ⟨b10, 0, none⟩)]), (9, .func (.func 80) #[] #[.pointer (some ⟨b3, 0, none⟩)]), (11, .pointer (some ⟨b55, 0, none⟩)), (12, I 0), (13, I x57), (25, h1), (26, I (a1.length : Int)), (27, I x29)] (Bx b55 106 [I x53.1, I x53.2.1, I x53.2.2.1, I x53.2.2.2] :: OwnS 28 1 v20 (y22.map cI) :: OwnS 4 1 v24 (y23.map cB) :: OwnS 4 1 v26 (y25.map cB) :: Bx b10 93 [v20, v187] :: OwnS 3 1 v187 (y186.map cI) :: Bx b4 93 [.slice none 0 0, .slice none 0 0] :: Bx b3 3 [I a0] :: L) a w) ?_ ?_ | refine TC.cutX (fun a w => ∃ v187 : Value, Mid 260 B [(2, .pointer (some ⟨b3, 0, none⟩)), (4, .pointer (some ⟨b4, 0, none⟩)), (5, .pointer (some ⟨b10, 0, none⟩)), (6, v26), (7, v24), (8, .func (.func 79) #[] #[.pointer (some ⟨b10, 0, none⟩)]), (9, .func (.func 80) #[] #[.pointer (some ⟨b3, 0, none⟩)]), (11, .pointer (some ⟨b55, 0, none⟩)), (12, I 0), (13, I x57), (25, h1), (26, I (a1.length : Int)), (27, I x29)] (Bx b55 106 [I x53.1, I x53.2.1, I x53.2.2.1, I x53.2.2.2] :: OwnS 28 1 v20 (y22.map cI) :: OwnS 4 1 v24 (y23.map cB) :: OwnS 4 1 v26 (y25.map cB) :: Bx b10 93 [v20, v187] :: OwnS 3 1 v187 (y186.map cI) :: Bx b4 93 [.slice none 0 0, .slice none 0 0] :: Bx b3 3 [I a0] :: L) a w) ?_ ?_
                                      · refine TC.cond rfl (fun hc189 => ?_) (fun hc189 => ?_)
                                        · replace hj188 := cond_t hc189 hj188
                                          refine TC.region ?_
                                          refine TO.s rfl rfl rfl (StepS.fld rfl kfieldB_93_1_1_true) ?_
                                          refine TO.s rfl rfl rfl (StepS.ldB rfl (Ent.at 4 rfl) kscalB_22_true rfl) ?_
                                          refine TO.s rfl rfl rfl (StepS.fld rfl kfieldB_106_2_2_true) ?_
                                          refine TO.s rfl rfl rfl (StepS.ldB rfl (Ent.at 0 rfl) kscalB_3_true rfl) ?_
                                          obtain ⟨x190, hx191, hj188⟩ := bind_some hj188
                                          refine TO.s rfl rfl rfl (StepS.idx rfl rfl (OwnS.rd (Ent.at 5 rfl)) ksliceB_22_3_1_true (idx_spec hx191).1 (idxm_lt hx191)) ?_
                                          refine TO.stO (i := x53.2.2.1.toNat) (off := 0) (us := [I 3]) 5 3 rfl rfl rfl ksizeB_3_1_true rfl rfl rfl (idx_spec hx191).2 rfl (by simp [Value.oneCell']) rfl ?_
                                          cases hj188
                                          refine TO.nil fun a w e s => ?_
                                          exact ⟨v28, e.sub (lk_of_allIn ⟨rfl, rfl, rfl, rfl, rfl, rfl, rfl, rfl, rfl, rfl, rfl, rfl, rfl, trivial⟩), s⟩
                                        · replace hj188 := cond_f hc189 hj188
                                          cases hj188
                                          refine TC.skip fun a w e s => ?_
                                          exact ⟨v28, e.sub (lk_of_allIn ⟨rfl, rfl, rfl, rfl, rfl, rfl, rfl, rfl, rfl, rfl, rfl, rfl, rfl, trivial⟩), s⟩
                                      · intro a w ⟨v187, he, hs⟩
                                        refine TC.use ?_ he hs
                                        refine TC.region_tail 10 kfollows_mixedOrders_true (by kernel_rfl) ?_
                                        refine TS.s rfl rfl rfl (StepS.fld rfl kfieldB_93_1_1_true) ?_
                                        refine TS.s rfl rfl rfl (StepS.ldB rfl (Ent.at 4 rfl) kscalB_22_true rfl) ?_
                                        refine TS.s rfl rfl rfl (StepS.move rfl) ?_
                                        refine TS.s rfl rfl rfl (StepS.fld rfl kfieldB_93_1_1_true) ?_
                                        refine TS.s rfl rfl rfl (StepS.ldB rfl (Ent.at 4 rfl) kscalB_22_true rfl) ?_
                                        refine TS.s rfl rfl rfl (StepS.fld rfl kfieldB_106_2_2_true) ?_
                                        refine TS.s rfl rfl rfl (StepS.ldB rfl (Ent.at 0 rfl) kscalB_3_true rfl) ?_
                                        obtain ⟨x192, hx193, hj88⟩ := bind_some hj88
                                        refine TS.s rfl rfl rfl (StepS.idx rfl rfl (OwnS.rd (Ent.at 5 rfl)) ksliceB_22_3_1_true (idx_spec hx193).1 (idxm_lt hx193)) ?_
                                        refine TS.s rfl rfl rfl (StepS.ld0 rfl (OwnS.rd (Ent.at 5 rfl)) kscalB_3_true rfl (idxm hx193) rfl) ?_
                                        obtain ⟨x194, hx195, hj88⟩ := bind_some hj88
                                        refine TS.s rfl rfl rfl (StepS.idx rfl rfl (OwnS.rd (Ent.at 5 rfl)) ksliceB_22_3_1_true (idx_spec hx195).1 (idxm_lt hx195)) ?_
                                        refine TS.nil ?_
                                        refine TO.at ?_
                                        refine TO.stO (i := x57.toNat) (off := 0) (us := [I x192]) 5 x192 rfl rfl rfl ksizeB_3_1_true rfl rfl rfl (idx_spec hx195).2 rfl (by simp [Value.oneCell']) rfl ?_
                                        cases hj88
                                        refine TO.nil fun a w e s => ?_
                                        exact ⟨v24, v26, v187, e.sub (lk_of_allIn ⟨rfl, rfl, rfl, rfl, rfl, rfl, rfl, rfl, rfl, rfl, rfl, trivial⟩), s⟩
              · intro a w ⟨v82, v84, v86, he, hs⟩
                refine TC.use ?_ he hs
                refine TC.region ?_
                refine TO.s rfl rfl rfl (StepS.fld rfl kfieldB_93_0_0_true) ?_
                refine TO.s rfl rfl rfl (StepS.ldB rfl (Ent.at 4 rfl) kscalB_24_true rfl) ?_
                refine TO.s rfl rfl rfl (StepS.move rfl) ?_
                refine TO.litS (f := cI) ([x87] : List Int) kelemB_24_28_1_8_true kinfo_28_bind_zero_some_I_0 rfl rfl (fun _ => rfl) rfl rfl (by kernel_rfl) rfl fun v196 => ?_
                obtain ⟨y198, hk199, hb51⟩ := bind_some hb51
                refine TO.app (k := 2) (f := cI) kelemB_24_28_1_8_true (by decide) rfl rfl rfl (OwnS.rd (Ent.at 0 rfl)) hk199 (fun x c hc => by simp [Value.oneCell'] at hc ⊢; first | (obtain rfl := hc; rfl) | (rcases hc with rfl <;> rfl)) rfl rfl fun v200 => ?_
                refine TO.s rfl rfl rfl (StepS.fld rfl kfieldB_93_0_0_true) ?_
                refine TO.pure (fun _ s => Rd.one (OwnS.rd (Ent.at 2 rfl)) s) fun oc201 => ?_
                refine TO.stB (us := [v200]) 5 [v200, v86] rfl rfl rfl ksizeB_24_1_true oc201.2 rfl rfl (by intro u hu; simp only [List.mem_cons, List.not_mem_nil, or_false] at hu; rcases hu with rfl <;> first | exact oc201.1 | rfl) rfl ?_
                refine TO.code ?_
                refine TC.region ?_
                refine TO.s rfl rfl rfl (StepS.ari rfl rfl rfl) ?_
                refine TO.s rfl rfl rfl (StepS.move rfl) ?_
                cases hb51
                refine TO.nil fun a w e s => ?_
                exact ⟨v200, v82, v84, v86, e.sub (lk_of_allIn ⟨rfl, rfl, rfl, rfl, rfl, rfl, rfl, rfl, rfl, rfl, trivial⟩), s.mono fun _ => Sat.dropN 2⟩
    · replace hb51 := cond_f hc52 hb51
      cases hb51
      refine TC.exit rfl fun a w e s => ?_
      exact ⟨v20, v24, v26, v28, e.sub (lk_of_allIn ⟨rfl, rfl, trivial⟩), s⟩
  · exact fun a w e s => ⟨.slice none 0 0, v18, v14, v7, e.sub (lk_of_allIn ⟨rfl, rfl, rfl, rfl, rfl, rfl, rfl, rfl, rfl, rfl, trivial⟩), s.mono fun _ s => (by replace s := Sat.front 5 rfl s; replace s := Sat.front 5 rfl s; replace s := Sat.front 5 rfl s; replace s := Sat.front 5 rfl s; replace s := Sat.front 5 rfl s; replace s := Sat.front 5 rfl s; replace s := Sat.nilS (e := 28) (sz := 1) (f := cI) s; exact s)⟩
  · rintro ⟨y42, y43, y45, y47⟩ rfl a w ⟨v40, v44, v46, v48, he, hs⟩
    dsimp only [Ctl.on] at hm
    refine TC.use ?_ he hs
    refine TC.k ?_
    refine TC.region ?_
    refine TO.s rfl rfl rfl (StepS.ldBA rfl (Ent.at 3 rfl) kaggB_93_2_true rfl rfl) ?_
    refine TO.pure (fun _ s => Rd.one (OwnS.rd (Ent.at 0 rfl)) s) fun oc202 => ?_
    refine TO.pure (fun _ s => Rd.one (OwnS.rd (Ent.at 4 rfl)) s) fun oc203 => ?_
    refine TO.stB (us := [v40, v48]) 5 [v40, v48] rfl rfl rfl ksizeB_93_2_true rfl rfl rfl (by intro u hu; simp only [List.mem_cons, List.not_mem_nil, or_false] at hu; rcases hu with rfl | rfl <;> first | exact oc202.1 | exact oc203.1 | rfl) rfl ?_
    refine TO.code ?_
    cases hm
    refine TC.ret fun a w e s => ?_
    refine FRet.cell1 (P := Try.prog) (fn := Try.f45) e s rfl rfl (Ent.at 5 rfl) kaggB_93_2_true rfl ?_
    refine ⟨_, _, rfl, ⟨(v40), (v48), rfl, rfl⟩, ?_⟩
    refine s.mono fun _ s => ?_
    replace s := Sat.front 4 rfl s
    replace s := Sat.front 1 rfl s
    replace s := Sat.erase 2 s
    replace s := Sat.erase 2 s
    replace s := Sat.erase 2 s
    replace s := Sat.erase 2 s
    replace s := Sat.erase 2 s
    exact s
  · rintro r rfl
    exact fun a w h => h.elim

set_option maxRecDepth 100000 in
theorem C18 {B : World} {L : List HP} {a0 : List Int} {a1 : List Int} {h0 : Value} {h1 : Value} {r0 : Bool} (e0 : Ent L (Rd 1 h0 (a0.map cI))) (e1 : Ent L (Rd 1 h1 (a1.map cI))) (hm : F18 a0 a1 = some r0) {w : World} (st : St B L w) : Calls Try.prog 18 #[h0, h1] w (fun e w' => (e = .returned (.bool r0) ∧ St B (L) w')) := by
  refine calls_of (N := 26) (L := L) (args := [h0, h1]) Try.func18 rfl rfl rfl ?_ st
  dsimp only [F18] at hm
  refine TC.k ?_
  refine TC.region ?_
  refine TO.s rfl rfl rfl (StepS.assign rfl) ?_
  refine TO.code ?_
  refine TC.k ?_
  refine TC.k ?_
  refine TC.region ?_
  refine TO.s rfl rfl rfl (StepS.move rfl) ?_
  refine TO.s rfl rfl rfl (StepS.lenm rfl e0 ksliceB_24_28_1_true rfl) ?_
  refine TO.s rfl rfl rfl (StepS.move rfl) ?_
  refine TO.s rfl rfl rfl (StepS.lenm rfl e1 ksliceB_24_28_1_true rfl) ?_
  refine TO.s rfl rfl rfl (StepS.cmp rfl rfl rfl) ?_
  refine TO.code ?_
  refine TC.cond rfl (fun hc1 => ?_) (fun hc1 => ?_)
  · replace hm := cond_t hc1 hm
    refine TC.k ?_
    refine TC.region ?_
    refine TO.s rfl rfl rfl (StepS.assign rfl) ?_
    refine TO.code ?_
    cases hm
    refine TC.ret fun a w e s => ?_
    refine FRet.mk1 (P := Try.prog) (fn := Try.f18) (t := 4) e rfl rfl ?_
    exact ⟨rfl, s.mono fun _ => Sat.dropN 0⟩
  · replace hm := cond_f hc1 hm
    refine TC.skipk ?_
    refine TC.k ?_
    refine TC.k ?_
    refine TC.region ?_
    refine TO.s rfl rfl rfl (StepS.assign rfl) ?_
    refine TO.code ?_
    obtain ⟨o4, hw5, hm⟩ := bind_some hm
    refine TC.loop hw5 (fun x2 => fun a w => Mid 26 B [(0, h0), (1, h1), (5, I x2)] (L) a w) (fun _ => fun a w => Mid 26 B [] (L) a w) (fun r0 => FRet Try.prog Try.f18 (fun e w' => (e = .returned (.bool r0) ∧ St B (L) w'))) ?_ ?_ ?_ ?_
    · rintro x2 o4r hb6 a w ⟨he, hs⟩
      dsimp only [F18_L0] at hb6
      refine TC.use ?_ he hs
      refine TC.k ?_
      refine TC.k ?_
      refine TC.region ?_
      refine TO.s rfl rfl rfl (StepS.move rfl) ?_
      refine TO.s rfl rfl rfl (StepS.move rfl) ?_
      refine TO.s rfl rfl rfl (StepS.lenm rfl e0 ksliceB_24_28_1_true rfl) ?_
      refine TO.s rfl rfl rfl (StepS.cmp rfl rfl rfl) ?_
      refine TO.code ?_
      refine TC.cond rfl (fun hc7 => ?_) (fun hc7 => ?_)
      · replace hb6 := cond_t hc7 hb6
        refine TC.skipk ?_
        refine TC.k ?_
        refine TC.block ?_
        refine TC.k ?_
        refine TC.region_still kfollows_mixedOrders_true (by kernel_rfl) ?_
        refine TS.s rfl rfl rfl (StepS.move rfl) ?_
        refine TS.s rfl rfl rfl (StepS.move rfl) ?_
        obtain ⟨x8, hx9, hb6⟩ := bind_some hb6
        refine TS.s rfl rfl rfl (StepS.idx rfl rfl e0 ksliceB_24_28_1_true (idx_spec hx9).1 (idxm_lt hx9)) ?_
        refine TS.s rfl rfl rfl (StepS.ld0 rfl e0 kscalB_28_true rfl (idxm hx9) rfl) ?_
        refine TS.s rfl rfl rfl (StepS.move rfl) ?_
        refine TS.s rfl rfl rfl (StepS.move rfl) ?_
        obtain ⟨x10, hx11, hb6⟩ := bind_some hb6
        refine TS.s rfl rfl rfl (StepS.idx rfl rfl e1 ksliceB_24_28_1_true (idx_spec hx11).1 (idxm_lt hx11)) ?_
        refine TS.s rfl rfl rfl (StepS.ld0 rfl e1 kscalB_28_true rfl (idxm hx11) rfl) ?_
        refine TS.s rfl rfl rfl (StepS.cmp rfl rfl rfl) ?_
        refine TS.code ?_
        refine TC.cond rfl (fun hc12 => ?_) (fun hc12 => ?_)
        · replace hb6 := cond_t hc12 hb6
          refine TC.k ?_
          refine TC.region ?_
          refine TO.s rfl rfl rfl (StepS.assign rfl) ?_
          refine TO.code ?_
          cases hb6
          refine TC.ret fun a w e s => ?_
          refine FRet.mk1 (P := Try.prog) (fn := Try.f18) (t := 4) e rfl rfl ?_
          exact ⟨rfl, s.mono fun _ => Sat.dropN 0⟩
        · replace hb6 := cond_f hc12 hb6
          refine TC.skipk ?_
          refine TC.region ?_
          refine TO.s rfl rfl rfl (StepS.move rfl) ?_
          refine TO.s rfl rfl rfl (StepS.ari rfl rfl rfl) ?_
          refine TO.s rfl rfl rfl (StepS.assign rfl) ?_
          cases hb6
          refine TO.nil fun a w e s => ?_
          exact ⟨e.sub (lk_of_allIn ⟨rfl, rfl, rfl, trivial⟩), s⟩
      · replace hb6 := cond_f hc7 hb6
        cases hb6
        refine TC.exit rfl fun a w e s => ?_
        exact ⟨e.sub (lk_of_allIn trivial), s⟩
    · exact fun a w e s => ⟨e.sub (lk_of_allIn ⟨rfl, rfl, rfl, trivial⟩), s⟩
    · rintro _ rfl a w ⟨he, hs⟩
      dsimp only [Ctl.on] at hm
      refine TC.use ?_ he hs
      refine TC.k ?_
      refine TC.region ?_
      refine TO.s rfl rfl rfl (StepS.assign rfl) ?_
      refine TO.code ?_
      cases hm
      refine TC.ret fun a w e s => ?_
      refine FRet.mk1 (P := Try.prog) (fn := Try.f18) (t := 4) e rfl rfl ?_
      exact ⟨rfl, s.mono fun _ => Sat.dropN 0⟩
    · rintro r rfl
      cases hm
      exact fun a w h => h

set_option maxRecDepth 100000 in
theorem C25 {B : World} {L : List HP} {a0 : List Int} {a1 : List Int} {h0 : Value} {h1 : Value} {r0 : Bool} (e0 : Ent L (Rd 1 h0 (a0.map cI))) (e1 : Ent L (Rd 1 h1 (a1.map cI))) (hm : F25 a0 a1 = some r0) {w : World} (st : St B L w) : Calls Try.prog 25 #[h0, h1] w (fun e w' => (e = .returned (.bool r0) ∧ St B (L) w')) := by
  refine calls_of (N := 26) (L := L) (args := [h0, h1]) Try.func25 rfl rfl rfl ?_ st
  dsimp only [F25] at hm
  refine TC.k ?_
  refine TC.region ?_
  refine TO.s rfl rfl rfl (StepS.assign rfl) ?_
  refine TO.code ?_
  refine TC.k ?_
  refine TC.k ?_
  refine TC.region ?_
  refine TO.s rfl rfl rfl (StepS.move rfl) ?_
  refine TO.s rfl rfl rfl (StepS.lenm rfl e0 ksliceB_22_3_1_true rfl) ?_
  refine TO.s rfl rfl rfl (StepS.move rfl) ?_
  refine TO.s rfl rfl rfl (StepS.lenm rfl e1 ksliceB_22_3_1_true rfl) ?_
  refine TO.s rfl rfl rfl (StepS.cmp rfl rfl rfl) ?_
  refine TO.code ?_
  refine TC.cond rfl (fun hc1 => ?_) (fun hc1 => ?_)
  · replace hm := cond_t hc1 hm
    refine TC.k ?_
    refine TC.region ?_
    refine TO.s rfl rfl rfl (StepS.assign rfl) ?_
    refine TO.code ?_
    cases hm
    refine TC.ret fun a w e s => ?_
    refine FRet.mk1 (P := Try.prog) (fn := Try.f25) (t := 4) e rfl rfl ?_
    exact ⟨rfl, s.mono fun _ => Sat.dropN 0⟩
  · replace hm := cond_f hc1 hm
    refine TC.skipk ?_
    refine TC.k ?_
    refine TC.k ?_
    refine TC.region ?_
    refine TO.s rfl rfl rfl (StepS.assign rfl) ?_
    refine TO.code ?_
    obtain ⟨o4, hw5, hm⟩ := bind_some hm
    refine TC.loop hw5 (fun x2 => fun a w => Mid 26 B [(0, h0), (1, h1), (5, I x2)] (L) a w) (fun _ => fun a w => Mid 26 B [] (L) a w) (fun r0 => FRet Try.prog Try.f25 (fun e w' => (e = .returned (.bool r0) ∧ St B (L) w'))) ?_ ?_ ?_ ?_
    · rintro x2 o4r hb6 a w ⟨he, hs⟩
      dsimp only [F25_L0] at hb6
      refine TC.use ?_ he hs
      refine TC.k ?_
      refine TC.k ?_
      refine TC.region ?_
      refine TO.s rfl rfl rfl (StepS.move rfl) ?_
      refine TO.s rfl rfl rfl (StepS.move rfl) ?_
      refine TO.s rfl rfl rfl (StepS.lenm rfl e0 ksliceB_22_3_1_true rfl) ?_
      refine TO.s rfl rfl rfl (StepS.cmp rfl rfl rfl) ?_
      refine TO.code ?_
      refine TC.cond rfl (fun hc7 => ?_) (fun hc7 => ?_)
      · replace hb6 := cond_t hc7 hb6
        refine TC.skipk ?_
        refine TC.k ?_
        refine TC.block ?_
        refine TC.k ?_
        refine TC.region_still kfollows_mixedOrders_true (by kernel_rfl) ?_
        refine TS.s rfl rfl rfl (StepS.move rfl) ?_
        refine TS.s rfl rfl rfl (StepS.move rfl) ?_
        obtain ⟨x8, hx9, hb6⟩ := bind_some hb6
        refine TS.s rfl rfl rfl (StepS.idx rfl rfl e0 ksliceB_22_3_1_true (idx_spec hx9).1 (idxm_lt hx9)) ?_
        refine TS.s rfl rfl rfl (StepS.ld0 rfl e0 kscalB_3_true rfl (idxm hx9) rfl) ?_
        refine TS.s rfl rfl rfl (StepS.move rfl) ?_
        refine TS.s rfl rfl rfl (StepS.move rfl) ?_
        obtain ⟨x10, hx11, hb6⟩ := bind_some hb6
        refine TS.s rfl rfl rfl (StepS.idx rfl rfl e1 ksliceB_22_3_1_true (idx_spec hx11).1 (idxm_lt hx11)) ?_
        refine TS.s rfl rfl rfl (StepS.ld0 rfl e1 kscalB_3_true rfl (idxm hx11) rfl) ?_
        refine TS.s rfl rfl rfl (StepS.cmp rfl rfl rfl) ?_
        refine TS.code ?_
        refine TC.cond rfl (fun hc12 => ?_) (fun hc12 => ?_)
        · replace hb6 := cond_t hc12 hb6
          refine TC.k ?_
          refine TC.region ?_
          refine TO.s rfl rfl rfl (StepS.assign rfl) ?_
          refine TO.code ?_
          cases hb6
          refine TC.ret fun a w e s => ?_
          refine FRet.mk1 (P := Try.prog) (fn := Try.f25) (t := 4) e rfl rfl ?_
          exact ⟨rfl, s.mono fun _ => Sat.dropN 0⟩
        · replace hb6 := cond_f hc12 hb6
          refine TC.skipk ?_
          refine TC.region ?_
          refine TO.s rfl rfl rfl (StepS.move rfl) ?_
          refine TO.s rfl rfl rfl (StepS.ari rfl rfl rfl) ?_
          refine TO.s rfl rfl rfl (StepS.assign rfl) ?_
          cases hb6
          refine TO.nil fun a w e s => ?_
          exact ⟨e.sub (lk_of_allIn ⟨rfl, rfl, rfl, trivial⟩), s⟩
      · replace hb6 := cond_f hc7 hb6
        cases hb6
        refine TC.exit rfl fun a w e s => ?_
        exact ⟨e.sub (lk_of_allIn trivial), s⟩
    · exact fun a w e s => ⟨e.sub (lk_of_allIn ⟨rfl, rfl, rfl, trivial⟩), s⟩
    · rintro _ rfl a w ⟨he, hs⟩
      dsimp only [Ctl.on] at hm
      refine TC.use ?_ he hs
      refine TC.k ?_
      refine TC.region ?_
      refine TO.s rfl rfl rfl (StepS.assign rfl) ?_
      refine TO.code ?_
      cases hm
      refine TC.ret fun a w e s => ?_
      refine FRet.mk1 (P := Try.prog) (fn := Try.f25) (t := 4) e rfl rfl ?_
      exact ⟨rfl, s.mono fun _ => Sat.dropN 0⟩
    · rintro r rfl
      cases hm
      exact fun a w h => h

set_option maxRecDepth 100000 in
theorem C13 {B : World} {L : List HP} {a0 : Int} {a1 : List (Int × Int × Int × Int)} {h1 : Value} {r0 : Bool} (e1 : Ent L (Rd 4 h1 (a1.map cTiiii))) (hm : F13 a0 a1 = some r0) {w : World} (st : St B L w) : Calls Try.prog 13 #[I a0, h1] w (fun e w' => (e = .returned (.bool r0) ∧ St B (L) w')) := by
  refine calls_of (N := 42) (L := L) (args := [I a0, h1]) Try.func13 rfl rfl rfl ?_ st
  dsimp only [F13] at hm
  refine TC.k ?_
  refine TC.region ?_
  refine TO.s rfl rfl rfl (StepS.assign rfl) ?_
  refine TO.code ?_
  refine TC.k ?_
  refine TC.region ?_
  refine TO.s rfl rfl rfl (StepS.move rfl) ?_
  refine TO.s rfl rfl rfl (StepS.move rfl) ?_
  obtain ⟨⟨r1, r2⟩, hc3, hm⟩ := bind_some hm
  refine TO.callO kcallB_44_true rfl rfl rfl (fun _ st => C44 e1 hc3 st) ?_
  rintro _ _ ⟨v4, v6, rfl, rfl⟩
  refine TO.s rfl rfl rfl (StepS.move rfl) ?_
  refine TO.s rfl rfl rfl (StepS.extract rfl rfl) ?_
  refine TO.s rfl rfl rfl (StepS.extract rfl rfl) ?_
  refine TO.alloc kinfo_93_bind_zero_some_agg_slice_none_0_0_slice_none_0_0 rfl rfl fun b8 => ?_
  refine TO.pure (fun _ s => Rd.one (OwnS.rd (Ent.at 1 rfl)) s) fun oc9 => ?_
  refine TO.pure (fun _ s => Rd.one (OwnS.rd (Ent.at 2 rfl)) s) fun oc10 => ?_
  refine TO.stB (us := [v4, v6]) 0 [v4, v6] rfl rfl rfl ksizeB_93_2_true rfl rfl rfl (by intro u hu; simp only [List.mem_cons, List.not_mem_nil, or_false] at hu; rcases hu with rfl | rfl <;> first | exact oc9.1 | exact oc10.1 | rfl) rfl ?_
  refine TO.s rfl rfl rfl (StepS.assign rfl) ?_
  refine TO.code ?_
  refine TC.k ?_
  refine TC.region ?_
  refine TO.s rfl rfl rfl (StepS.move rfl) ?_
  refine TO.s rfl rfl rfl (StepS.move rfl) ?_
  refine TO.s rfl rfl rfl (StepS.lenm rfl e1.tl.tl.tl ksliceB_23_106_4_true rfl) ?_
  obtain ⟨r11, hc12, hm⟩ := bind_some hm
  refine TO.q rfl rfl rfl (StepQ.call kcallB_21_true rfl rfl (fun _ st => C21  hc12 st)) ?_
  refine TO.s rfl rfl rfl (StepS.assign rfl) ?_
  refine TO.code ?_
  refine TC.k ?_
  refine TC.region ?_
  refine TO.s rfl rfl rfl (StepS.build (cs := [.slice none 0 0, .slice none 0 0]) rfl (by kernel_rfl)) ?_
  refine TO.alloc kinfo_93_bind_zero_some_agg_slice_none_0_0_slice_none_0_0 rfl rfl fun b13 => ?_
  refine TO.stB (us := [.slice none 0 0, .slice none 0 0]) 0 [.slice none 0 0, .slice none 0 0] rfl rfl rfl ksizeB_93_2_true rfl rfl rfl (by simp [Value.oneCell']) rfl ?_
  refine TO.code ?_
  refine TC.k ?_
  refine TC.k ?_
  refine TC.region ?_
  refine TO.s rfl rfl rfl (StepS.move rfl) ?_
  refine TO.s rfl rfl rfl (StepS.cmp rfl rfl rfl) ?_
  refine TO.code ?_
  obtain ⟨⟨y16, y19⟩, hj20, hm⟩ := bind_some hm
  first | refine TC.cutM (fun a w => ∃ v14 : Value, ∃ v17 : Value, Mid 42 B [(5, .pointer (some ⟨b8, 0, none⟩)), (6, I r2), (7, I r11), (8, .pointer (some ⟨b13, 0, none⟩))] (OwnS 28 1 v14 (y16.map cI) :: OwnS 3 1 v17 (y19.map cI) :: Bx b13 93 [v14, v17] :: Bx b8 93 [v4, v6] :: OwnS 28 1 v4 (r1.1.map cI) :: OwnS 3 1 v6 (r1.2.map cI) :: L) a w) ?_ ?_ | refine TC.cutX (fun a w => ∃ v14 : Value, ∃ v17 : Value, Mid 42 B [(5, .pointer (some ⟨b8, 0, none⟩)), (6, I r2), (7, I r11), (8, .pointer (some ⟨b13, 0, none⟩))] (OwnS 28 1 v14 (y16.map cI) :: OwnS 3 1 v17 (y19.map cI) :: Bx b13 93 [v14, v17] :: Bx b8 93 [v4, v6] :: OwnS 28 1 v4 (r1.1.map cI) :: OwnS 3 1 v6 (r1.2.map cI) :: L) a w) ?_ ?_
  · refine TC.cond rfl (fun hc21 => ?_) (fun hc21 => ?_)
    · replace hj20 := cond_t hc21 hj20
      refine TC.region ?_
      refine TO.s rfl rfl rfl (StepS.move rfl) ?_
      refine TO.s rfl rfl rfl (StepS.move rfl) ?_
      obtain ⟨r22, hc23, hj20⟩ := bind_some hj20
      refine TO.callO kcallB_45_true rfl rfl rfl (fun _ st => C45 e1.tl.tl.tl.tl hc23 st) ?_
      rintro _ _ ⟨v24, v26, rfl, rfl⟩
      refine TO.pure (fun _ s => Rd.one (OwnS.rd (Ent.at 0 rfl)) s) fun oc28 => ?_
      refine TO.pure (fun _ s => Rd.one (OwnS.rd (Ent.at 1 rfl)) s) fun oc29 => ?_
      refine TO.stB (us := [v24, v26]) 2 [v24, v26] rfl rfl rfl ksizeB_93_2_true rfl rfl rfl (by intro u hu; simp only [List.mem_cons, List.not_mem_nil, or_false] at hu; rcases hu with rfl | rfl <;> first | exact oc28.1 | exact oc29.1 | rfl) rfl ?_
      cases hj20
      refine TO.nil fun a w e s => ?_
      exact ⟨v24, v26, e.sub (lk_of_allIn ⟨rfl, rfl, rfl, rfl, trivial⟩), s⟩
    · replace hj20 := cond_f hc21 hj20
      cases hj20
      refine TC.skip fun a w e s => ?_
      exact ⟨.slice none 0 0, .slice none 0 0, e.sub (lk_of_allIn ⟨rfl, rfl, rfl, rfl, trivial⟩), s.mono fun _ s => (by replace s := Sat.front 3 rfl s; replace s := Sat.front 3 rfl s; replace s := Sat.front 3 rfl s; replace s := Sat.front 3 rfl s; replace s := Sat.nilS (e := 3) (sz := 1) (f := cI) s; replace s := Sat.nilS (e := 28) (sz := 1) (f := cI) s; exact s)⟩
  · intro a w ⟨v14, v17, he, hs⟩
    refine TC.use ?_ he hs
    refine TC.k ?_
    refine TC.region ?_
    refine TO.s rfl rfl rfl (StepS.move rfl) ?_
    refine TO.s rfl rfl rfl (StepS.move rfl) ?_
    refine TO.s rfl rfl rfl (StepS.cmp rfl rfl rfl) ?_
    refine TO.s rfl rfl rfl (StepS.move rfl) ?_
    obtain ⟨b31, hj32, hm⟩ := bind_some hm
    refine TO.mid1 6 34 (.bool b31) ?_ ?_
    · refine bcase ((r2 == r11)) (fun hb30 => ?_) (fun hb30 => ?_)
      · replace hj32 := cond_t hb30 hj32
        refine TO.sw rfl rfl rfl hb30 rfl rfl (StepS.fld rfl kfieldB_93_0_0_true) ?_
        refine TO.sw rfl rfl rfl hb30 rfl rfl (StepS.ldB rfl (Ent.at 3 rfl) kscalB_24_true rfl) ?_
        refine TO.sw rfl rfl rfl hb30 rfl rfl (StepS.fld rfl kfieldB_93_0_0_true) ?_
        refine TO.sw rfl rfl rfl hb30 rfl rfl (StepS.ldB rfl (Ent.at 2 rfl) kscalB_24_true rfl) ?_
        obtain ⟨r33, hc34, hj32⟩ := bind_some hj32
        refine TO.qw rfl rfl rfl hb30 rfl rfl (StepQ.call kcallB_18_true rfl rfl (fun _ st => C18 (OwnS.rd (Ent.at 4 rfl)) (OwnS.rd (Ent.at 0 rfl)) hc34 st)) ?_
        cases hj32
        refine TO.s rfl rfl rfl (StepS.pickT rfl hb30 rfl) ?_
        exact TO.up1 6 0 rfl rfl rfl rfl
      · replace hj32 := cond_f hb30 hj32
        cases hj32
        refine TO.skip rfl rfl rfl (skipF hb30) rfl rfl ?_
        refine TO.skip rfl rfl rfl (skipF hb30) rfl rfl ?_
        refine TO.skip rfl rfl rfl (skipF hb30) rfl rfl ?_
        refine TO.skip rfl rfl rfl (skipF hb30) rfl rfl ?_
        refine TO.skip rfl rfl rfl (skipF hb30) rfl rfl ?_
        refine TO.s rfl rfl rfl (StepS.pickF rfl hb30 rfl) ?_
        exact TO.up1 6 0 rfl rfl rfl rfl
    refine TO.s rfl rfl rfl (StepS.move rfl) ?_
    obtain ⟨b36, hj37, hm⟩ := bind_some hm
    refine TO.mid1 6 41 (.bool b36) ?_ ?_
    · refine bcase (b31) (fun hb35 => ?_) (fun hb35 => ?_)
      · replace hj37 := cond_t hb35 hj37
        refine TO.sw rfl rfl rfl hb35 rfl rfl (StepS.fld rfl kfieldB_93_1_1_true) ?_
        refine TO.sw rfl rfl rfl hb35 rfl rfl (StepS.ldB rfl (Ent.at 3 rfl) kscalB_22_true rfl) ?_
        refine TO.sw rfl rfl rfl hb35 rfl rfl (StepS.fld rfl kfieldB_93_1_1_true) ?_
        refine TO.sw rfl rfl rfl hb35 rfl rfl (StepS.ldB rfl (Ent.at 2 rfl) kscalB_22_true rfl) ?_
        obtain ⟨r38, hc39, hj37⟩ := bind_some hj37
        refine TO.qw rfl rfl rfl hb35 rfl rfl (StepQ.call kcallB_25_true rfl rfl (fun _ st => C25 (OwnS.rd (Ent.at 5 rfl)) (OwnS.rd (Ent.at 1 rfl)) hc39 st)) ?_
        cases hj37
        refine TO.s rfl rfl rfl (StepS.pickT rfl hb35 rfl) ?_
        exact TO.up1 6 0 rfl rfl rfl rfl
      · replace hj37 := cond_f hb35 hj37
        cases hj37
        refine TO.skip rfl rfl rfl (skipF hb35) rfl rfl ?_
        refine TO.skip rfl rfl rfl (skipF hb35) rfl rfl ?_
        refine TO.skip rfl rfl rfl (skipF hb35) rfl rfl ?_
        refine TO.skip rfl rfl rfl (skipF hb35) rfl rfl ?_
        refine TO.skip rfl rfl rfl (skipF hb35) rfl rfl ?_
        refine TO.s rfl rfl rfl (StepS.pickF rfl hb35 rfl) ?_
        exact TO.up1 6 0 rfl rfl rfl rfl
    refine TO.s rfl rfl rfl (StepS.assign rfl) ?_
    refine TO.code ?_
    cases hm
    refine TC.ret fun a w e s => ?_
    refine FRet.mk1 (P := Try.prog) (fn := Try.f13) (t := 4) e rfl rfl ?_
    exact ⟨rfl, s.mono fun _ => Sat.dropN 6⟩
end Go.Proofs.Ythfkdepcnhhepaa
