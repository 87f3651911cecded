/-
  The walks: each Go function returns what its model says. Written by a program (gen.py).
-/
import Derived.Test.YtdjmlbjkendobaaProg
import Derived.KernelRfl
import Derived.Test.YtdjmlbjkendobaaFM
namespace Go.Proofs.Ytdjmlbjkendobaa
open Go Go.Bk
set_option linter.unusedVariables false
set_option linter.unnecessarySimpa false
theorem kfieldB_100_0_0_true : fieldB Try.prog 100 0 0 = true := by kernel_rfl
theorem kscalB_3_true : scalB Try.prog 3 = true := by kernel_rfl
theorem ksliceB_63_100_3_true : sliceB Try.prog 63 100 3 = true := by kernel_rfl
theorem kaggB_100_3_true : aggB Try.prog 100 3 = true := by kernel_rfl
theorem kcallB_92_true : callB Try.prog 92 = true := by kernel_rfl
theorem ksliceB_22_3_1_true : sliceB Try.prog 22 3 1 = true := by kernel_rfl
theorem kinfo_100_bind_zero_some_agg_I_0_I_0_U_0 : (Try.prog.info? 100).bind (·.zero) = some (.agg #[I 0, I 0, U 0]) := by kernel_rfl
theorem ksizeB_100_3_true : sizeB Try.prog 100 3 = true := by kernel_rfl
theorem kfieldB_100_1_1_true : fieldB Try.prog 100 1 1 = true := by kernel_rfl
theorem kfieldB_100_2_2_true : fieldB Try.prog 100 2 2 = true := by kernel_rfl
theorem kscalB_31_true : scalB Try.prog 31 = true := by kernel_rfl
theorem kcallB_85_true : callB Try.prog 85 = true := by kernel_rfl
theorem kcallB_84_true : callB Try.prog 84 = true := by kernel_rfl
theorem kintB_31_u32_true : intB Try.prog 31 .u32 = true := by kernel_rfl
theorem kintB_132_u64_true : intB Try.prog 132 .u64 = true := by kernel_rfl
theorem kintB_42_u64_true : intB Try.prog 42 .u64 = true := by kernel_rfl
theorem kcallB_93_true : callB Try.prog 93 = true := by kernel_rfl
theorem kcallB_94_true : callB Try.prog 94 = true := by kernel_rfl
theorem ksliceB_82_31_1_true : sliceB Try.prog 82 31 1 = true := by kernel_rfl
theorem kintB_3_i64_true : intB Try.prog 3 .i64 = true := by kernel_rfl
theorem kcallB_86_true : callB Try.prog 86 = true := by kernel_rfl
theorem kelemB_82_31_1_4_true : elemB Try.prog 82 31 1 4 = true := by kernel_rfl
theorem kinfo_31_bind_zero_some_U_0 : (Try.prog.info? 31).bind (·.zero) = some (U 0) := by kernel_rfl
theorem kfollows_mixedOrders_true : Try.prog.follows .mixedOrders = true := by kernel_rfl
theorem kcallB_63_true : callB Try.prog 63 = true := by kernel_rfl
theorem ksizeB_31_1_true : sizeB Try.prog 31 1 = true := by kernel_rfl
theorem kcallB_64_true : callB Try.prog 64 = true := by kernel_rfl
theorem kcallB_65_true : callB Try.prog 65 = true := by kernel_rfl
theorem kelemB_22_3_1_8_true : elemB Try.prog 22 3 1 8 = true := by kernel_rfl
theorem kinfo_3_bind_zero_some_I_0 : (Try.prog.info? 3).bind (·.zero) = some (I 0) := by kernel_rfl
theorem ksizeB_3_1_true : sizeB Try.prog 3 1 = true := by kernel_rfl
theorem kelemB_79_22_1_24_true : elemB Try.prog 79 22 1 24 = true := by kernel_rfl
theorem kinfo_22_bind_zero_some_slice_none_0_0 : (Try.prog.info? 22).bind (·.zero) = some (.slice none 0 0) := by kernel_rfl
theorem ksliceB_79_22_1_true : sliceB Try.prog 79 22 1 = true := by kernel_rfl
theorem ksizeB_22_1_true : sizeB Try.prog 22 1 = true := by kernel_rfl
theorem kscalB_22_true : scalB Try.prog 22 = true := by kernel_rfl
theorem kcallB_23_true : callB Try.prog 23 = true := by kernel_rfl
theorem kcallB_62_true : callB Try.prog 62 = true := by kernel_rfl
theorem kcallB_38_true : callB Try.prog 38 = true := by kernel_rfl
theorem kcallB_39_true : callB Try.prog 39 = true := by kernel_rfl
theorem kcallB_40_true : callB Try.prog 40 = true := by kernel_rfl
theorem kcallB_29_true : callB Try.prog 29 = true := by kernel_rfl

set_option maxRecDepth 100000 in
theorem C85 {B : World} {L : List HP} {a0 : Int × Int × BitVec 32} {a1 : Int × Int × BitVec 32} {b1_ : Nat} {r0 : Bool} (g1 : Ent L (Bx b1_ 100 [I a1.1, I a1.2.1, U a1.2.2])) (hm : F85 a0 a1 = some r0) {w : World} (st : St B L w) : Calls Try.prog 85 #[.agg (cTiiiu32 a0).toArray, .pointer (some ⟨b1_, 0, none⟩)] w (fun e w' => (e = .returned (.bool r0) ∧ St B (L) w')) := by
  refine calls_of (N := 9) (L := L) (args := [.agg (cTiiiu32 a0).toArray, .pointer (some ⟨b1_, 0, none⟩)]) Try.func85 rfl rfl rfl ?_ st
  dsimp only [F85] at hm
  refine TC.k ?_
  refine TC.region ?_
  refine TO.box (cs := [I a0.1, I a0.2.1, U a0.2.2]) rfl rfl rfl fun b1 => ?_
  refine TO.s rfl rfl rfl (StepS.assign rfl) ?_
  refine TO.code ?_
  refine TC.k ?_
  refine TC.region ?_
  refine TO.s rfl rfl rfl (StepS.fld rfl kfieldB_100_0_0_true) ?_
  refine TO.s rfl rfl rfl (StepS.ldB rfl (Ent.at 0 rfl) kscalB_3_true rfl) ?_
  refine TO.s rfl rfl rfl (StepS.fld rfl kfieldB_100_0_0_true) ?_
  refine TO.s rfl rfl rfl (StepS.ldB rfl g1.tl kscalB_3_true rfl) ?_
  refine TO.s rfl rfl rfl (StepS.cmp rfl rfl rfl) ?_
  refine TO.s rfl rfl rfl (StepS.assign rfl) ?_
  refine TO.code ?_
  cases hm
  refine TC.ret fun a w e s => ?_
  refine FRet.mk1 (P := Try.prog) (fn := Try.f85) (t := 3) e rfl rfl ?_
  exact ⟨rfl, s.mono fun _ => Sat.dropN 1⟩

set_option maxRecDepth 100000 in
theorem C92 {B : World} {L : List HP} {a0 : List (Int × Int × BitVec 32)} {a1 : (Int × Int × BitVec 32) → Option Bool} {h0 : Value} {h1 : Value} {r0 : Int} (e0 : Ent L (Rd 3 h0 (a0.map cTiiiu32))) (e1 : FOk Try.prog B L h1 (fun (z : Int × Int × BitVec 32) => [.agg (cTiiiu32 z).toArray]) (fun (z : Bool) => .bool z) a1) (hm : F92 a0 a1 = some r0) {w : World} (st : St B L w) : Calls Try.prog 92 #[h0, h1] w (fun e w' => (e = .returned (I r0) ∧ St B (L) w')) := by
  refine calls_of (N := 19) (L := L) (args := [h0, h1]) Try.func92 rfl rfl rfl ?_ st
  dsimp only [F92] at hm
  refine TC.k ?_
  refine TC.region ?_
  refine TO.s rfl rfl rfl (StepS.assign rfl) ?_
  refine TO.code ?_
  refine TC.k ?_
  refine TC.k ?_
  refine TC.region ?_
  refine TO.s rfl rfl rfl (StepS.move rfl) ?_
  refine TO.s rfl rfl rfl (StepS.lenm rfl e0 ksliceB_63_100_3_true rfl) ?_
  refine TO.s rfl rfl rfl (StepS.move rfl) ?_
  refine TO.code ?_
  obtain ⟨o3, hw4, hm⟩ := bind_some hm
  refine TC.loop hw4 (fun x1 => fun a w => Mid 19 B [(0, h0), (1, h1), (7, I (a0.length : Int)), (8, I x1)] (L) a w) (fun _ => fun a w => Mid 19 B [] (L) a w) (fun r0 => FRet Try.prog Try.f92 (fun e w' => (e = .returned (I r0) ∧ St B (L) w'))) ?_ ?_ ?_ ?_
  · rintro x1 o3r hb5 a w ⟨he, hs⟩
    dsimp only [F92_L0] at hb5
    refine TC.use ?_ he hs
    refine TC.k ?_
    refine TC.region ?_
    refine TO.s rfl rfl rfl (StepS.cmp rfl rfl rfl) ?_
    refine TO.code ?_
    refine TC.k ?_
    refine TC.cond rfl (fun hc6 => ?_) (fun hc6 => ?_)
    · replace hb5 := cond_t hc6 hb5
      refine TC.skipk ?_
      refine TC.k ?_
      refine TC.block ?_
      refine TC.k ?_
      refine TC.region ?_
      refine TO.s rfl rfl rfl (StepS.move rfl) ?_
      refine TO.s rfl rfl rfl (StepS.assign rfl) ?_
      refine TO.code ?_
      refine TC.k ?_
      refine TC.region ?_
      refine TO.s rfl rfl rfl (StepS.move rfl) ?_
      refine TO.s rfl rfl rfl (StepS.move rfl) ?_
      refine TO.s rfl rfl rfl (StepS.move rfl) ?_
      obtain ⟨x7, hx8, hb5⟩ := bind_some hb5
      refine TO.s rfl rfl rfl (StepS.idx rfl rfl e0 ksliceB_63_100_3_true (idx_spec hx8).1 (idxm_lt hx8)) ?_
      refine TO.s rfl rfl rfl (StepS.ldE rfl e0 kaggB_100_3_true rfl (idxm hx8)) ?_
      obtain ⟨r9, hc10, hb5⟩ := bind_some hb5
      refine TO.q rfl rfl rfl (StepQ.callF (x := x7) e1 (Ext.rfl) rfl rfl hc10) ?_
      refine TO.code ?_
      refine TC.cond rfl (fun hc11 => ?_) (fun hc11 => ?_)
      · replace hb5 := cond_t hc11 hb5
        refine TC.k ?_
        refine TC.region ?_
        refine TO.s rfl rfl rfl (StepS.move rfl) ?_
        refine TO.s rfl rfl rfl (StepS.assign rfl) ?_
        refine TO.code ?_
        cases hb5
        refine TC.ret fun a w e s => ?_
        refine FRet.mk1 (P := Try.prog) (fn := Try.f92) (t := 4) e rfl rfl ?_
        exact ⟨rfl, s.mono fun _ => Sat.dropN 0⟩
      · replace hb5 := cond_f hc11 hb5
        refine TC.skipk ?_
        refine TC.region ?_
        refine TO.s rfl rfl rfl (StepS.ari rfl rfl rfl) ?_
        refine TO.s rfl rfl rfl (StepS.move rfl) ?_
        cases hb5
        refine TO.nil fun a w e s => ?_
        exact ⟨e.sub (lk_of_allIn ⟨rfl, rfl, rfl, rfl, trivial⟩), s⟩
    · replace hb5 := cond_f hc6 hb5
      cases hb5
      refine TC.exit rfl fun a w e s => ?_
      exact ⟨e.sub (lk_of_allIn trivial), s⟩
  · exact fun a w e s => ⟨e.sub (lk_of_allIn ⟨rfl, rfl, rfl, rfl, trivial⟩), s⟩
  · rintro _ rfl a w ⟨he, hs⟩
    dsimp only [Ctl.on] at hm
    refine TC.use ?_ he hs
    refine TC.k ?_
    refine TC.region ?_
    refine TO.s rfl rfl rfl (StepS.assign rfl) ?_
    refine TO.code ?_
    cases hm
    refine TC.ret fun a w e s => ?_
    refine FRet.mk1 (P := Try.prog) (fn := Try.f92) (t := 4) e rfl rfl ?_
    exact ⟨rfl, s.mono fun _ => Sat.dropN 0⟩
  · rintro r rfl
    cases hm
    exact fun a w h => h

set_option maxRecDepth 100000 in
theorem C84 {B : World} {L : List HP} {a0 : List (Int × Int × BitVec 32)} {a1 : (Int × Int × BitVec 32) → Option Bool} {h0 : Value} {h1 : Value} {r0 : Bool} (e0 : Ent L (Rd 3 h0 (a0.map cTiiiu32))) (e1 : FOk Try.prog B L h1 (fun (z : Int × Int × BitVec 32) => [.agg (cTiiiu32 z).toArray]) (fun (z : Bool) => .bool z) a1) (hm : F84 a0 a1 = some r0) {w : World} (st : St B L w) : Calls Try.prog 84 #[h0, h1] w (fun e w' => (e = .returned (.bool r0) ∧ St B (L) w')) := by
  refine calls_of (N := 9) (L := L) (args := [h0, h1]) Try.func84 rfl rfl rfl ?_ st
  dsimp only [F84] at hm
  refine TC.k ?_
  refine TC.region ?_
  refine TO.s rfl rfl rfl (StepS.assign rfl) ?_
  refine TO.code ?_
  refine TC.k ?_
  refine TC.region ?_
  refine TO.s rfl rfl rfl (StepS.move rfl) ?_
  refine TO.s rfl rfl rfl (StepS.move rfl) ?_
  obtain ⟨r1, hc2, hm⟩ := bind_some hm
  refine TO.q rfl rfl rfl (StepQ.call kcallB_92_true rfl rfl (fun _ st => C92 e0 (e1.ext (Ext.rfl)) hc2 st)) ?_
  refine TO.s rfl rfl rfl (StepS.cmp rfl rfl rfl) ?_
  refine TO.s rfl rfl rfl (StepS.assign rfl) ?_
  refine TO.code ?_
  cases hm
  refine TC.ret fun a w e s => ?_
  refine FRet.mk1 (P := Try.prog) (fn := Try.f84) (t := 4) e rfl rfl ?_
  exact ⟨rfl, s.mono fun _ => Sat.dropN 0⟩

set_option maxRecDepth 100000 in
theorem C63 {B : World} {L : List HP} {a0 : List Int} {a1 : List (Int × Int × BitVec 32)} {a2 : Int} {h0 : Value} {h1 : Value} {r0 : Int} (e0 : Ent L (Rd 1 h0 (a0.map cI))) (e1 : Ent L (Rd 3 h1 (a1.map cTiiiu32))) (hm : F63 a0 a1 a2 = some r0) {w : World} (st : St B L w) : Calls Try.prog 63 #[h0, h1, I a2] w (fun e w' => (e = .returned (I r0) ∧ St B (L) w')) := by
  refine calls_of (N := 82) (L := L) (args := [h0, h1, I a2]) Try.func63 rfl rfl rfl ?_ st
  dsimp only [F63] at hm
  refine TC.k ?_
  refine TC.region ?_
  refine TO.s rfl rfl rfl (StepS.assign rfl) ?_
  refine TO.code ?_
  refine TC.k ?_
  refine TC.region ?_
  refine TO.s rfl rfl rfl (StepS.move rfl) ?_
  refine TO.s rfl rfl rfl (StepS.lenm rfl e0 ksliceB_22_3_1_true rfl) ?_
  refine TO.s rfl rfl rfl (StepS.assign rfl) ?_
  refine TO.code ?_
  refine TC.k ?_
  refine TC.k ?_
  refine TC.region ?_
  refine TO.s rfl rfl rfl (StepS.move rfl) ?_
  refine TO.s rfl rfl rfl (StepS.cmp rfl rfl rfl) ?_
  refine TO.s rfl rfl rfl (StepS.move rfl) ?_
  refine TO.mid1 3 21 (.bool ((decide ((a0.length : Int) < 1)) || (decide ((a0.length : Int) > 6)))) ?_ ?_
  · refine bcase ((decide ((a0.length : Int) < 1))) (fun hb1 => ?_) (fun hb1 => ?_)
    · refine TO.skip rfl rfl rfl (skipT hb1) rfl rfl ?_
      refine TO.skip rfl rfl rfl (skipT hb1) rfl rfl ?_
      refine TO.s rfl rfl rfl (StepS.pickT rfl hb1 rfl) ?_
      exact TO.up1 3 0 rfl rfl (by rw [hb1]; rfl) rfl
    · refine TO.sw rfl rfl rfl hb1 rfl rfl (StepS.move rfl) ?_
      refine TO.sw rfl rfl rfl hb1 rfl rfl (StepS.cmp rfl rfl rfl) ?_
      refine TO.s rfl rfl rfl (StepS.pickF rfl hb1 rfl) ?_
      exact TO.up1 3 0 rfl rfl (by rw [hb1]; rfl) rfl
  refine TO.s rfl rfl rfl (StepS.move rfl) ?_
  refine TO.mid1 3 25 (.bool (((decide ((a0.length : Int) < 1)) || (decide ((a0.length : Int) > 6))) || (decide (a2 < 0)))) ?_ ?_
  · refine bcase (((decide ((a0.length : Int) < 1)) || (decide ((a0.length : Int) > 6)))) (fun hb2 => ?_) (fun hb2 => ?_)
    · refine TO.skip rfl rfl rfl (skipT hb2) rfl rfl ?_
      refine TO.skip rfl rfl rfl (skipT hb2) rfl rfl ?_
      refine TO.s rfl rfl rfl (StepS.pickT rfl hb2 rfl) ?_
      exact TO.up1 3 0 rfl rfl (by rw [hb2]; rfl) rfl
    · refine TO.sw rfl rfl rfl hb2 rfl rfl (StepS.move rfl) ?_
      refine TO.sw rfl rfl rfl hb2 rfl rfl (StepS.cmp rfl rfl rfl) ?_
      refine TO.s rfl rfl rfl (StepS.pickF rfl hb2 rfl) ?_
      exact TO.up1 3 0 rfl rfl (by rw [hb2]; rfl) rfl
  refine TO.s rfl rfl rfl (StepS.move rfl) ?_
  refine TO.mid1 3 29 (.bool ((((decide ((a0.length : Int) < 1)) || (decide ((a0.length : Int) > 6))) || (decide (a2 < 0))) || (decide (a2 > 8)))) ?_ ?_
  · refine bcase ((((decide ((a0.length : Int) < 1)) || (decide ((a0.length : Int) > 6))) || (decide (a2 < 0)))) (fun hb3 => ?_) (fun hb3 => ?_)
    · refine TO.skip rfl rfl rfl (skipT hb3) rfl rfl ?_
      refine TO.skip rfl rfl rfl (skipT hb3) rfl rfl ?_
      refine TO.s rfl rfl rfl (StepS.pickT rfl hb3 rfl) ?_
      exact TO.up1 3 0 rfl rfl (by rw [hb3]; rfl) rfl
    · refine TO.sw rfl rfl rfl hb3 rfl rfl (StepS.move rfl) ?_
      refine TO.sw rfl rfl rfl hb3 rfl rfl (StepS.cmp rfl rfl rfl) ?_
      refine TO.s rfl rfl rfl (StepS.pickF rfl hb3 rfl) ?_
      exact TO.up1 3 0 rfl rfl (by rw [hb3]; rfl) rfl
  refine TO.code ?_
  refine TC.cond rfl (fun hc4 => ?_) (fun hc4 => ?_)
  · replace hm := cond_t hc4 hm
    refine TC.k ?_
    refine TC.region ?_
    refine TO.s rfl rfl rfl (StepS.assign rfl) ?_
    refine TO.code ?_
    cases hm
    refine TC.ret fun a w e s => ?_
    refine FRet.mk1 (P := Try.prog) (fn := Try.f63) (t := 6) e rfl rfl ?_
    exact ⟨rfl, s.mono fun _ => Sat.dropN 0⟩
  · replace hm := cond_f hc4 hm
    refine TC.skipk ?_
    refine TC.k ?_
    refine TC.k ?_
    refine TC.region ?_
    refine TO.s rfl rfl rfl (StepS.move rfl) ?_
    refine TO.s rfl rfl rfl (StepS.lenm rfl e1 ksliceB_63_100_3_true rfl) ?_
    refine TO.s rfl rfl rfl (StepS.move rfl) ?_
    refine TO.code ?_
    obtain ⟨o7, hw8, hm⟩ := bind_some hm
    refine TC.loop hw8 (fun x5 => fun a w => Mid 82 B [(1, h1), (2, I a2), (7, I (a0.length : Int)), (30, h1), (31, I (a1.length : Int)), (32, I x5)] (L) a w) (fun _ => fun a w => Mid 82 B [(1, h1), (2, I a2), (7, I (a0.length : Int))] (L) a w) (fun r0 => FRet Try.prog Try.f63 (fun e w' => (e = .returned (I r0) ∧ St B (L) w'))) ?_ ?_ ?_ ?_
    · rintro x5 o7r hb9 a w ⟨he, hs⟩
      dsimp only [F63_L0] at hb9
      refine TC.use ?_ he hs
      refine TC.k ?_
      refine TC.region ?_
      refine TO.s rfl rfl rfl (StepS.cmp rfl rfl rfl) ?_
      refine TO.code ?_
      refine TC.k ?_
      refine TC.cond rfl (fun hc10 => ?_) (fun hc10 => ?_)
      · replace hb9 := cond_t hc10 hb9
        refine TC.skipk ?_
        refine TC.k ?_
        refine TC.block ?_
        refine TC.k ?_
        refine TC.region ?_
        obtain ⟨x11, hx12, hb9⟩ := bind_some hb9
        refine TO.s rfl rfl rfl (StepS.idx rfl rfl e1 ksliceB_63_100_3_true (idx_spec hx12).1 (idxm_lt hx12)) ?_
        refine TO.s rfl rfl rfl (StepS.ldE rfl e1 kaggB_100_3_true rfl (idxm hx12)) ?_
        refine TO.alloc kinfo_100_bind_zero_some_agg_I_0_I_0_U_0 rfl rfl fun b13 => ?_
        refine TO.stB (us := [I x11.1, I x11.2.1, U x11.2.2]) 0 [I x11.1, I x11.2.1, U x11.2.2] rfl rfl rfl ksizeB_100_3_true rfl rfl rfl (by simp [Value.oneCell']) rfl ?_
        refine TO.code ?_
        refine TC.k ?_
        refine TC.region ?_
        refine TO.s rfl rfl rfl (StepS.fld rfl kfieldB_100_0_0_true) ?_
        refine TO.s rfl rfl rfl (StepS.ldB rfl (Ent.at 0 rfl) kscalB_3_true rfl) ?_
        refine TO.s rfl rfl rfl (StepS.cmp rfl rfl rfl) ?_
        refine TO.s rfl rfl rfl (StepS.move rfl) ?_
        refine TO.mid1 5 44 (.bool ((decide (x11.1 < 0)) || (decide (x11.1 ≥ (a0.length : Int))))) ?_ ?_
        · refine bcase ((decide (x11.1 < 0))) (fun hb14 => ?_) (fun hb14 => ?_)
          · refine TO.skip rfl rfl rfl (skipT hb14) rfl rfl ?_
            refine TO.skip rfl rfl rfl (skipT hb14) rfl rfl ?_
            refine TO.skip rfl rfl rfl (skipT hb14) rfl rfl ?_
            refine TO.skip rfl rfl rfl (skipT hb14) rfl rfl ?_
            refine TO.s rfl rfl rfl (StepS.pickT rfl hb14 rfl) ?_
            exact TO.up1 5 0 rfl rfl (by rw [hb14]; rfl) rfl
          · refine TO.sw rfl rfl rfl hb14 rfl rfl (StepS.fld rfl kfieldB_100_0_0_true) ?_
            refine TO.sw rfl rfl rfl hb14 rfl rfl (StepS.ldB rfl (Ent.at 0 rfl) kscalB_3_true rfl) ?_
            refine TO.sw rfl rfl rfl hb14 rfl rfl (StepS.move rfl) ?_
            refine TO.sw rfl rfl rfl hb14 rfl rfl (StepS.cmp rfl rfl rfl) ?_
            refine TO.s rfl rfl rfl (StepS.pickF rfl hb14 rfl) ?_
            exact TO.up1 5 0 rfl rfl (by rw [hb14]; rfl) rfl
        refine TO.code ?_
        refine TC.cond rfl (fun hc15 => ?_) (fun hc15 => ?_)
        · replace hb9 := cond_t hc15 hb9
          refine TC.k ?_
          refine TC.region ?_
          refine TO.s rfl rfl rfl (StepS.assign rfl) ?_
          refine TO.code ?_
          cases hb9
          refine TC.ret fun a w e s => ?_
          refine FRet.mk1 (P := Try.prog) (fn := Try.f63) (t := 6) e rfl rfl ?_
          exact ⟨rfl, s.mono fun _ => Sat.dropN 1⟩
        · replace hb9 := cond_f hc15 hb9
          refine TC.skipk ?_
          refine TC.region ?_
          refine TO.s rfl rfl rfl (StepS.ari rfl rfl rfl) ?_
          refine TO.s rfl rfl rfl (StepS.move rfl) ?_
          cases hb9
          refine TO.nil fun a w e s => ?_
          exact ⟨e.sub (lk_of_allIn ⟨rfl, rfl, rfl, rfl, rfl, rfl, trivial⟩), s.mono fun _ => Sat.dropN 1⟩
      · replace hb9 := cond_f hc10 hb9
        cases hb9
        refine TC.exit rfl fun a w e s => ?_
        exact ⟨e.sub (lk_of_allIn ⟨rfl, rfl, rfl, trivial⟩), s⟩
    · exact fun a w e s => ⟨e.sub (lk_of_allIn ⟨rfl, rfl, rfl, rfl, rfl, rfl, trivial⟩), s⟩
    · rintro _ rfl a w ⟨he, hs⟩
      dsimp only [Ctl.on] at hm
      refine TC.use ?_ he hs
      refine TC.k ?_
      refine TC.k ?_
      refine TC.region ?_
      refine TO.s rfl rfl rfl (StepS.move rfl) ?_
      refine TO.s rfl rfl rfl (StepS.lenm rfl e1 ksliceB_63_100_3_true rfl) ?_
      refine TO.s rfl rfl rfl (StepS.move rfl) ?_
      refine TO.code ?_
      obtain ⟨o18, hw19, hm⟩ := bind_some hm
      refine TC.loop hw19 (fun x16 => fun a w => Mid 82 B [(1, h1), (2, I a2), (7, I (a0.length : Int)), (46, h1), (47, I (a1.length : Int)), (48, I x16)] (L) a w) (fun _ => fun a w => Mid 82 B [(1, h1)] (L) a w) (fun r0 => FRet Try.prog Try.f63 (fun e w' => (e = .returned (I r0) ∧ St B (L) w'))) ?_ ?_ ?_ ?_
      · rintro x16 o18r hb20 a w ⟨he, hs⟩
        dsimp only [F63_L1] at hb20
        refine TC.use ?_ he hs
        refine TC.k ?_
        refine TC.region ?_
        refine TO.s rfl rfl rfl (StepS.cmp rfl rfl rfl) ?_
        refine TO.code ?_
        refine TC.k ?_
        refine TC.cond rfl (fun hc21 => ?_) (fun hc21 => ?_)
        · replace hb20 := cond_t hc21 hb20
          refine TC.skipk ?_
          refine TC.k ?_
          refine TC.block ?_
          refine TC.k ?_
          refine TC.region ?_
          obtain ⟨x22, hx23, hb20⟩ := bind_some hb20
          refine TO.s rfl rfl rfl (StepS.idx rfl rfl e1 ksliceB_63_100_3_true (idx_spec hx23).1 (idxm_lt hx23)) ?_
          refine TO.s rfl rfl rfl (StepS.ldE rfl e1 kaggB_100_3_true rfl (idxm hx23)) ?_
          refine TO.alloc kinfo_100_bind_zero_some_agg_I_0_I_0_U_0 rfl rfl fun b24 => ?_
          refine TO.stB (us := [I x22.1, I x22.2.1, U x22.2.2]) 0 [I x22.1, I x22.2.1, U x22.2.2] rfl rfl rfl ksizeB_100_3_true rfl rfl rfl (by simp [Value.oneCell']) rfl ?_
          refine TO.code ?_
          refine TC.k ?_
          refine TC.region ?_
          refine TO.s rfl rfl rfl (StepS.fld rfl kfieldB_100_1_1_true) ?_
          refine TO.s rfl rfl rfl (StepS.ldB rfl (Ent.at 0 rfl) kscalB_3_true rfl) ?_
          refine TO.s rfl rfl rfl (StepS.cmp rfl rfl rfl) ?_
          refine TO.s rfl rfl rfl (StepS.move rfl) ?_
          refine TO.mid1 5 60 (.bool ((decide (x22.2.1 < 1)) || (decide (x22.2.1 > a2)))) ?_ ?_
          · refine bcase ((decide (x22.2.1 < 1))) (fun hb25 => ?_) (fun hb25 => ?_)
            · refine TO.skip rfl rfl rfl (skipT hb25) rfl rfl ?_
              refine TO.skip rfl rfl rfl (skipT hb25) rfl rfl ?_
              refine TO.skip rfl rfl rfl (skipT hb25) rfl rfl ?_
              refine TO.skip rfl rfl rfl (skipT hb25) rfl rfl ?_
              refine TO.s rfl rfl rfl (StepS.pickT rfl hb25 rfl) ?_
              exact TO.up1 5 0 rfl rfl (by rw [hb25]; rfl) rfl
            · refine TO.sw rfl rfl rfl hb25 rfl rfl (StepS.fld rfl kfieldB_100_1_1_true) ?_
              refine TO.sw rfl rfl rfl hb25 rfl rfl (StepS.ldB rfl (Ent.at 0 rfl) kscalB_3_true rfl) ?_
              refine TO.sw rfl rfl rfl hb25 rfl rfl (StepS.move rfl) ?_
              refine TO.sw rfl rfl rfl hb25 rfl rfl (StepS.cmp rfl rfl rfl) ?_
              refine TO.s rfl rfl rfl (StepS.pickF rfl hb25 rfl) ?_
              exact TO.up1 5 0 rfl rfl (by rw [hb25]; rfl) rfl
          refine TO.s rfl rfl rfl (StepS.move rfl) ?_
          obtain ⟨b27, hj28, hb20⟩ := bind_some hb20
          refine TO.mid1 6 67 (.bool b27) ?_ ?_
          · refine bcase (((decide (x22.2.1 < 1)) || (decide (x22.2.1 > a2)))) (fun hb26 => ?_) (fun hb26 => ?_)
            · replace hj28 := cond_t hb26 hj28
              cases hj28
              refine TO.skip rfl rfl rfl (skipT hb26) rfl rfl ?_
              refine TO.skip rfl rfl rfl (skipT hb26) rfl rfl ?_
              refine TO.skip rfl rfl rfl (skipT hb26) rfl rfl ?_
              refine TO.skip rfl rfl rfl (skipT hb26) rfl rfl ?_
              refine TO.skip rfl rfl rfl (skipT hb26) rfl rfl ?_
              refine TO.s rfl rfl rfl (StepS.pickT rfl hb26 rfl) ?_
              exact TO.up1 6 0 rfl rfl rfl rfl
            · replace hj28 := cond_f hb26 hj28
              refine TO.sw rfl rfl rfl hb26 rfl rfl (StepS.fld rfl kfieldB_100_2_2_true) ?_
              refine TO.sw rfl rfl rfl hb26 rfl rfl (StepS.ldB rfl (Ent.at 0 rfl) kscalB_31_true rfl) ?_
              refine TO.sw rfl rfl rfl hb26 rfl rfl (StepS.move rfl) ?_
              obtain ⟨k29, hk30, hj28⟩ := bind_some hj28
              refine TO.sw rfl rfl rfl hb26 rfl rfl (StepS.shrk rfl rfl hk30) ?_
              refine TO.sw rfl rfl rfl hb26 rfl rfl (StepS.cmpU (n := 0#32) rfl rfl rfl) ?_
              cases hj28
              refine TO.s rfl rfl rfl (StepS.pickF rfl hb26 rfl) ?_
              exact TO.up1 6 0 rfl rfl rfl rfl
          refine TO.code ?_
          refine TC.cond rfl (fun hc31 => ?_) (fun hc31 => ?_)
          · replace hb20 := cond_t hc31 hb20
            refine TC.k ?_
            refine TC.region ?_
            refine TO.s rfl rfl rfl (StepS.assign rfl) ?_
            refine TO.code ?_
            cases hb20
            refine TC.ret fun a w e s => ?_
            refine FRet.mk1 (P := Try.prog) (fn := Try.f63) (t := 6) e rfl rfl ?_
            exact ⟨rfl, s.mono fun _ => Sat.dropN 1⟩
          · replace hb20 := cond_f hc31 hb20
            refine TC.skipk ?_
            refine TC.region ?_
            refine TO.s rfl rfl rfl (StepS.ari rfl rfl rfl) ?_
            refine TO.s rfl rfl rfl (StepS.move rfl) ?_
            cases hb20
            refine TO.nil fun a w e s => ?_
            exact ⟨e.sub (lk_of_allIn ⟨rfl, rfl, rfl, rfl, rfl, rfl, trivial⟩), s.mono fun _ => Sat.dropN 1⟩
        · replace hb20 := cond_f hc21 hb20
          cases hb20
          refine TC.exit rfl fun a w e s => ?_
          exact ⟨e.sub (lk_of_allIn ⟨rfl, trivial⟩), s⟩
      · exact fun a w e s => ⟨e.sub (lk_of_allIn ⟨rfl, rfl, rfl, rfl, rfl, rfl, trivial⟩), s⟩
      · rintro _ rfl a w ⟨he, hs⟩
        dsimp only [Ctl.on] at hm
        refine TC.use ?_ he hs
        refine TC.k ?_
        refine TC.k ?_
        refine TC.region ?_
        refine TO.s rfl rfl rfl (StepS.move rfl) ?_
        refine TO.s rfl rfl rfl (StepS.lenm rfl e1 ksliceB_63_100_3_true rfl) ?_
        refine TO.s rfl rfl rfl (StepS.move rfl) ?_
        refine TO.code ?_
        obtain ⟨o34, hw35, hm⟩ := bind_some hm
        refine TC.loop hw35 (fun x32 => fun a w => Mid 82 B [(1, h1), (69, h1), (70, I (a1.length : Int)), (71, I x32)] (L) a w) (fun _ => fun a w => Mid 82 B [] (L) a w) (fun r0 => FRet Try.prog Try.f63 (fun e w' => (e = .returned (I r0) ∧ St B (L) w'))) ?_ ?_ ?_ ?_
        · rintro x32 o34r hb36 a w ⟨he, hs⟩
          dsimp only [F63_L2] at hb36
          refine TC.use ?_ he hs
          refine TC.k ?_
          refine TC.region ?_
          refine TO.s rfl rfl rfl (StepS.cmp rfl rfl rfl) ?_
          refine TO.code ?_
          refine TC.k ?_
          refine TC.cond rfl (fun hc37 => ?_) (fun hc37 => ?_)
          · replace hb36 := cond_t hc37 hb36
            refine TC.skipk ?_
            refine TC.k ?_
            refine TC.block ?_
            refine TC.k ?_
            refine TC.region ?_
            refine TO.s rfl rfl rfl (StepS.move rfl) ?_
            obtain ⟨x38, hx39, hb36⟩ := bind_some hb36
            refine TO.s rfl rfl rfl (StepS.idx rfl rfl e1 ksliceB_63_100_3_true (idx_spec hx39).1 (idxm_lt hx39)) ?_
            refine TO.s rfl rfl rfl (StepS.ldE rfl e1 kaggB_100_3_true rfl (idxm hx39)) ?_
            refine TO.alloc kinfo_100_bind_zero_some_agg_I_0_I_0_U_0 rfl rfl fun b40 => ?_
            refine TO.s rfl rfl rfl (StepS.assign rfl) ?_
            refine TO.stB (us := [I x38.1, I x38.2.1, U x38.2.2]) 0 [I x38.1, I x38.2.1, U x38.2.2] rfl rfl rfl ksizeB_100_3_true rfl rfl rfl (by simp [Value.oneCell']) rfl ?_
            refine TO.code ?_
            refine TC.k ?_
            refine TC.region ?_
            refine TO.s rfl rfl rfl (StepS.move rfl) ?_
            refine TO.s rfl rfl rfl (StepS.move rfl) ?_
            obtain ⟨y41, hs42, hb36⟩ := bind_some hb36
            obtain ⟨hs42a, hs42b, hs42c, _⟩ := slI_spec hs42
            refine TO.s rfl rfl rfl (StepS.slc rfl e1.tl ksliceB_63_100_3_true rfl rfl hs42a hs42b (by simpa using hs42c)) ?_
            refine TO.s rfl rfl rfl (StepS.mkfn rfl) ?_
            obtain ⟨r44, hc45, hb36⟩ := bind_some hb36
            refine TO.q rfl rfl rfl (StepQ.call kcallB_84_true rfl rfl (fun _ st => C84 (Ent.sub e1.tl hs42) ⟨85, #[], #[.pointer (some ⟨b40, 0, none⟩)], rfl, kcallB_85_true, fun _ hx z r hm w st => C85 (Ent.ext (Ent.at 0 rfl) hx) hm st⟩ hc45 st)) ?_
            refine TO.code ?_
            refine TC.cond rfl (fun hc46 => ?_) (fun hc46 => ?_)
            · replace hb36 := cond_t hc46 hb36
              refine TC.k ?_
              refine TC.region ?_
              refine TO.s rfl rfl rfl (StepS.assign rfl) ?_
              refine TO.code ?_
              cases hb36
              refine TC.ret fun a w e s => ?_
              refine FRet.mk1 (P := Try.prog) (fn := Try.f63) (t := 6) e rfl rfl ?_
              exact ⟨rfl, s.mono fun _ => Sat.dropN 1⟩
            · replace hb36 := cond_f hc46 hb36
              refine TC.skipk ?_
              refine TC.region ?_
              refine TO.s rfl rfl rfl (StepS.ari rfl rfl rfl) ?_
              refine TO.s rfl rfl rfl (StepS.move rfl) ?_
              cases hb36
              refine TO.nil fun a w e s => ?_
              exact ⟨e.sub (lk_of_allIn ⟨rfl, rfl, rfl, rfl, trivial⟩), s.mono fun _ => Sat.dropN 1⟩
          · replace hb36 := cond_f hc37 hb36
            cases hb36
            refine TC.exit rfl fun a w e s => ?_
            exact ⟨e.sub (lk_of_allIn trivial), s⟩
        · exact fun a w e s => ⟨e.sub (lk_of_allIn ⟨rfl, rfl, rfl, rfl, trivial⟩), s⟩
        · rintro _ rfl a w ⟨he, hs⟩
          dsimp only [Ctl.on] at hm
          refine TC.use ?_ he hs
          refine TC.k ?_
          refine TC.region ?_
          refine TO.s rfl rfl rfl (StepS.assign rfl) ?_
          refine TO.code ?_
          cases hm
          refine TC.ret fun a w e s => ?_
          refine FRet.mk1 (P := Try.prog) (fn := Try.f63) (t := 6) e rfl rfl ?_
          exact ⟨rfl, s.mono fun _ => Sat.dropN 0⟩
        · rintro r rfl
          cases hm
          exact fun a w h => h
      · rintro r rfl
        cases hm
        exact fun a w h => h
    · rintro r rfl
      cases hm
      exact fun a w h => h

set_option maxRecDepth 100000 in
theorem C93 {B : World} {L : List HP} {a0 : BitVec 32} {a1 : BitVec 32} {r0 : BitVec 32} {r1 : BitVec 32} (hm : F93 a0 a1 = some (r0, r1)) {w : World} (st : St B L w) : Calls Try.prog 93 #[U a0, U a1] w (fun e w' => (e = .returned (.tuple #[U r0, U r1]) ∧ St B (L) w')) := by
  refine calls_of (N := 17) (L := L) (args := [U a0, U a1]) Try.func93 rfl rfl rfl ?_ st
  dsimp only [F93] at hm
  refine TC.k ?_
  refine TC.region ?_
  refine TO.s rfl rfl rfl (StepS.assign rfl) ?_
  refine TO.s rfl rfl rfl (StepS.assign rfl) ?_
  refine TO.code ?_
  refine TC.k ?_
  refine TC.region ?_
  refine TO.s rfl rfl rfl (StepS.move rfl) ?_
  refine TO.s rfl rfl rfl (StepS.cvUV kintB_31_u32_true kintB_132_u64_true rfl) ?_
  refine TO.s rfl rfl rfl (StepS.move rfl) ?_
  refine TO.s rfl rfl rfl (StepS.cvUV kintB_31_u32_true kintB_132_u64_true rfl) ?_
  refine TO.s rfl rfl rfl (StepS.ariV rfl rfl rfl) ?_
  refine TO.s rfl rfl rfl (StepS.assign rfl) ?_
  refine TO.code ?_
  refine TC.k ?_
  refine TC.region ?_
  refine TO.s rfl rfl rfl (StepS.move rfl) ?_
  refine TO.s rfl rfl rfl (StepS.shrV rfl rfl (by decide)) ?_
  refine TO.s rfl rfl rfl (StepS.cvVU kintB_132_u64_true kintB_31_u32_true rfl) ?_
  refine TO.s rfl rfl rfl (StepS.move rfl) ?_
  refine TO.s rfl rfl rfl (StepS.cvVU kintB_132_u64_true kintB_31_u32_true rfl) ?_
  refine TO.s rfl rfl rfl (StepS.assign rfl) ?_
  refine TO.s rfl rfl rfl (StepS.assign rfl) ?_
  refine TO.code ?_
  cases hm
  refine TC.ret fun a w e s => ?_
  refine FRet.mk2 (P := Try.prog) (fn := Try.f93) (t := 4) (u := 5) e rfl rfl rfl ?_
  exact ⟨rfl, s.mono fun _ => Sat.dropN 0⟩

set_option maxRecDepth 100000 in
theorem C94 {B : World} {L : List HP} {a0 : Int} {a1 : Int} {r0 : Int} {r1 : Int} (hm : F94 a0 a1 = some (r0, r1)) {w : World} (st : St B L w) : Calls Try.prog 94 #[.int .u64 a0, .int .u64 a1] w (fun e w' => (e = .returned (.tuple #[.int .u64 r0, .int .u64 r1]) ∧ St B (L) w')) := by
  refine calls_of (N := 51) (L := L) (args := [.int .u64 a0, .int .u64 a1]) Try.func94 rfl rfl rfl ?_ st
  dsimp only [F94] at hm
  refine TC.k ?_
  refine TC.region ?_
  refine TO.s rfl rfl rfl (StepS.assign rfl) ?_
  refine TO.s rfl rfl rfl (StepS.assign rfl) ?_
  refine TO.code ?_
  refine TC.k ?_
  refine TC.region ?_
  refine TO.s rfl rfl rfl (StepS.move rfl) ?_
  refine TO.s rfl rfl rfl (StepS.andV rfl rfl) ?_
  refine TO.s rfl rfl rfl (StepS.assign rfl) ?_
  refine TO.code ?_
  refine TC.k ?_
  refine TC.region ?_
  refine TO.s rfl rfl rfl (StepS.move rfl) ?_
  refine TO.s rfl rfl rfl (StepS.shrV rfl rfl (by decide)) ?_
  refine TO.s rfl rfl rfl (StepS.assign rfl) ?_
  refine TO.code ?_
  refine TC.k ?_
  refine TC.region ?_
  refine TO.s rfl rfl rfl (StepS.move rfl) ?_
  refine TO.s rfl rfl rfl (StepS.andV rfl rfl) ?_
  refine TO.s rfl rfl rfl (StepS.assign rfl) ?_
  refine TO.code ?_
  refine TC.k ?_
  refine TC.region ?_
  refine TO.s rfl rfl rfl (StepS.move rfl) ?_
  refine TO.s rfl rfl rfl (StepS.shrV rfl rfl (by decide)) ?_
  refine TO.s rfl rfl rfl (StepS.assign rfl) ?_
  refine TO.code ?_
  refine TC.k ?_
  refine TC.region ?_
  refine TO.s rfl rfl rfl (StepS.move rfl) ?_
  refine TO.s rfl rfl rfl (StepS.move rfl) ?_
  refine TO.s rfl rfl rfl (StepS.ariV rfl rfl rfl) ?_
  refine TO.s rfl rfl rfl (StepS.assign rfl) ?_
  refine TO.code ?_
  refine TC.k ?_
  refine TC.region ?_
  refine TO.s rfl rfl rfl (StepS.move rfl) ?_
  refine TO.s rfl rfl rfl (StepS.move rfl) ?_
  refine TO.s rfl rfl rfl (StepS.ariV rfl rfl rfl) ?_
  refine TO.s rfl rfl rfl (StepS.move rfl) ?_
  refine TO.s rfl rfl rfl (StepS.shrV rfl rfl (by decide)) ?_
  refine TO.s rfl rfl rfl (StepS.ariV rfl rfl rfl) ?_
  refine TO.s rfl rfl rfl (StepS.assign rfl) ?_
  refine TO.code ?_
  refine TC.k ?_
  refine TC.region ?_
  refine TO.s rfl rfl rfl (StepS.move rfl) ?_
  refine TO.s rfl rfl rfl (StepS.andV rfl rfl) ?_
  refine TO.s rfl rfl rfl (StepS.assign rfl) ?_
  refine TO.code ?_
  refine TC.k ?_
  refine TC.region ?_
  refine TO.s rfl rfl rfl (StepS.move rfl) ?_
  refine TO.s rfl rfl rfl (StepS.shrV rfl rfl (by decide)) ?_
  refine TO.s rfl rfl rfl (StepS.assign rfl) ?_
  refine TO.code ?_
  refine TC.k ?_
  refine TC.region ?_
  refine TO.s rfl rfl rfl (StepS.move rfl) ?_
  refine TO.s rfl rfl rfl (StepS.move rfl) ?_
  refine TO.s rfl rfl rfl (StepS.move rfl) ?_
  refine TO.s rfl rfl rfl (StepS.ariV rfl rfl rfl) ?_
  refine TO.s rfl rfl rfl (StepS.ariV rfl rfl rfl) ?_
  refine TO.s rfl rfl rfl (StepS.assign rfl) ?_
  refine TO.code ?_
  refine TC.k ?_
  refine TC.region ?_
  refine TO.s rfl rfl rfl (StepS.move rfl) ?_
  refine TO.s rfl rfl rfl (StepS.move rfl) ?_
  refine TO.s rfl rfl rfl (StepS.ariV rfl rfl rfl) ?_
  refine TO.s rfl rfl rfl (StepS.move rfl) ?_
  refine TO.s rfl rfl rfl (StepS.ariV rfl rfl rfl) ?_
  refine TO.s rfl rfl rfl (StepS.move rfl) ?_
  refine TO.s rfl rfl rfl (StepS.shrV rfl rfl (by decide)) ?_
  refine TO.s rfl rfl rfl (StepS.ariV rfl rfl rfl) ?_
  refine TO.s rfl rfl rfl (StepS.assign rfl) ?_
  refine TO.code ?_
  refine TC.k ?_
  refine TC.region ?_
  refine TO.s rfl rfl rfl (StepS.move rfl) ?_
  refine TO.s rfl rfl rfl (StepS.move rfl) ?_
  refine TO.s rfl rfl rfl (StepS.ariV rfl rfl rfl) ?_
  refine TO.s rfl rfl rfl (StepS.assign rfl) ?_
  refine TO.code ?_
  cases hm
  refine TC.ret fun a w e s => ?_
  refine FRet.mk2 (P := Try.prog) (fn := Try.f94) (t := 4) (u := 5) e rfl rfl rfl ?_
  exact ⟨rfl, s.mono fun _ => Sat.dropN 0⟩

set_option maxRecDepth 100000 in
theorem C86 {B : World} {L : List HP} {a0 : Int} {a1 : Int} {r0 : Int} {r1 : Int} (hm : F86 a0 a1 = some (r0, r1)) {w : World} (st : St B L w) : Calls Try.prog 86 #[.int .u64 a0, .int .u64 a1] w (fun e w' => (e = .returned (.tuple #[.int .u64 r0, .int .u64 r1]) ∧ St B (L) w')) := by
  refine calls_of (N := 30) (L := L) (args := [.int .u64 a0, .int .u64 a1]) Try.func86 rfl rfl rfl ?_ st
  dsimp only [F86] at hm
  refine TC.k ?_
  refine TC.region ?_
  refine TO.s rfl rfl rfl (StepS.assign rfl) ?_
  refine TO.s rfl rfl rfl (StepS.assign rfl) ?_
  refine TO.code ?_
  refine TC.k ?_
  refine TC.cond rfl (fun hc1 => ?_) (fun hc1 => ?_)
  · replace hm := cond_t hc1 hm
    refine TC.k ?_
    refine TC.region ?_
    refine TO.s rfl rfl rfl (StepS.move rfl) ?_
    refine TO.s rfl rfl rfl (StepS.cvVU kintB_42_u64_true kintB_31_u32_true rfl) ?_
    refine TO.s rfl rfl rfl (StepS.move rfl) ?_
    refine TO.s rfl rfl rfl (StepS.cvVU kintB_42_u64_true kintB_31_u32_true rfl) ?_
    obtain ⟨⟨r2, r3⟩, hc4, hm⟩ := bind_some hm
    refine TO.q rfl rfl rfl (StepQ.call kcallB_93_true rfl rfl (fun _ st => C93  hc4 st)) ?_
    refine TO.s rfl rfl rfl (StepS.move rfl) ?_
    refine TO.s rfl rfl rfl (StepS.extract rfl rfl) ?_
    refine TO.s rfl rfl rfl (StepS.extract rfl rfl) ?_
    refine TO.s rfl rfl rfl (StepS.assign rfl) ?_
    refine TO.s rfl rfl rfl (StepS.assign rfl) ?_
    refine TO.code ?_
    refine TC.k ?_
    refine TC.region ?_
    refine TO.s rfl rfl rfl (StepS.move rfl) ?_
    refine TO.s rfl rfl rfl (StepS.cvUV kintB_31_u32_true kintB_42_u64_true rfl) ?_
    refine TO.s rfl rfl rfl (StepS.move rfl) ?_
    refine TO.s rfl rfl rfl (StepS.cvUV kintB_31_u32_true kintB_42_u64_true rfl) ?_
    refine TO.s rfl rfl rfl (StepS.assign rfl) ?_
    refine TO.s rfl rfl rfl (StepS.assign rfl) ?_
    refine TO.code ?_
    cases hm
    refine TC.ret fun a w e s => ?_
    refine FRet.mk2 (P := Try.prog) (fn := Try.f86) (t := 4) (u := 5) e rfl rfl rfl ?_
    exact ⟨rfl, s.mono fun _ => Sat.dropN 0⟩
  · replace hm := cond_f hc1 hm
    refine TC.skipk ?_
    refine TC.k ?_
    refine TC.region ?_
    refine TO.s rfl rfl rfl (StepS.move rfl) ?_
    refine TO.s rfl rfl rfl (StepS.move rfl) ?_
    obtain ⟨⟨r5, r6⟩, hc7, hm⟩ := bind_some hm
    refine TO.q rfl rfl rfl (StepQ.call kcallB_94_true rfl rfl (fun _ st => C94  hc7 st)) ?_
    refine TO.s rfl rfl rfl (StepS.move rfl) ?_
    refine TO.s rfl rfl rfl (StepS.extract rfl rfl) ?_
    refine TO.s rfl rfl rfl (StepS.extract rfl rfl) ?_
    refine TO.s rfl rfl rfl (StepS.assign rfl) ?_
    refine TO.s rfl rfl rfl (StepS.assign rfl) ?_
    refine TO.code ?_
    refine TC.k ?_
    refine TC.region ?_
    refine TO.s rfl rfl rfl (StepS.move rfl) ?_
    refine TO.s rfl rfl rfl (StepS.move rfl) ?_
    refine TO.s rfl rfl rfl (StepS.assign rfl) ?_
    refine TO.s rfl rfl rfl (StepS.assign rfl) ?_
    refine TO.code ?_
    cases hm
    refine TC.ret fun a w e s => ?_
    refine FRet.mk2 (P := Try.prog) (fn := Try.f86) (t := 4) (u := 5) e rfl rfl rfl ?_
    exact ⟨rfl, s.mono fun _ => Sat.dropN 0⟩

set_option maxRecDepth 100000 in
theorem C64 {B : World} {L : List HP} {a0 : List (BitVec 32)} {a1 : Int} {h0 : Value} {r0 : List (BitVec 32)} (e0 : Ent L (Rd 1 h0 (a0.map cU))) (hm : F64 a0 a1 = some r0) {w : World} (st : St B L w) : Calls Try.prog 64 #[h0, I a1] w (fun e w' => ∃ v M, e = .returned v ∧ (∃ (qv1 : Value), v = qv1 ∧ M = (OwnS 31 1 qv1 (r0.map cU) :: L)) ∧ St B M w') := by
  refine calls_of (N := 48) (L := L) (args := [h0, I a1]) Try.func64 rfl rfl rfl ?_ st
  dsimp only [F64] at hm
  refine TC.k ?_
  refine TC.region ?_
  refine TO.s rfl rfl rfl (StepS.assign rfl) ?_
  refine TO.code ?_
  refine TC.k ?_
  refine TC.k ?_
  refine TC.region ?_
  refine TO.s rfl rfl rfl (StepS.move rfl) ?_
  refine TO.s rfl rfl rfl (StepS.cmp rfl rfl rfl) ?_
  refine TO.code ?_
  refine TC.cond rfl (fun hc2 => ?_) (fun hc2 => ?_)
  · replace hm := cond_t hc2 hm
    refine TC.region ?_
    cases hm
  · replace hm := cond_f hc2 hm
    refine TC.skipk ?_
    refine TC.k ?_
    refine TC.region ?_
    refine TO.s rfl rfl rfl (StepS.move rfl) ?_
    refine TO.s rfl rfl rfl (StepS.lenm rfl e0 ksliceB_82_31_1_true rfl) ?_
    refine TO.s rfl rfl rfl (StepS.cvIV kintB_3_i64_true kintB_42_u64_true rfl) ?_
    refine TO.s rfl rfl rfl (StepS.move rfl) ?_
    refine TO.s rfl rfl rfl (StepS.cvIV kintB_3_i64_true kintB_42_u64_true rfl) ?_
    obtain ⟨⟨r3, r4⟩, hc5, hm⟩ := bind_some hm
    refine TO.q rfl rfl rfl (StepQ.call kcallB_86_true rfl rfl (fun _ st => C86  hc5 st)) ?_
    refine TO.s rfl rfl rfl (StepS.move rfl) ?_
    refine TO.s rfl rfl rfl (StepS.extract rfl rfl) ?_
    refine TO.s rfl rfl rfl (StepS.extract rfl rfl) ?_
    refine TO.s rfl rfl rfl (StepS.assign rfl) ?_
    refine TO.s rfl rfl rfl (StepS.assign rfl) ?_
    refine TO.code ?_
    refine TC.k ?_
    refine TC.k ?_
    refine TC.region ?_
    refine TO.s rfl rfl rfl (StepS.move rfl) ?_
    refine TO.s rfl rfl rfl (StepS.cmp rfl rfl rfl) ?_
    refine TO.s rfl rfl rfl (StepS.move rfl) ?_
    refine TO.mid1 3 26 (.bool ((decide (r3 > 0)) || (decide (r4 > 9223372036854775807)))) ?_ ?_
    · refine bcase ((decide (r3 > 0))) (fun hb6 => ?_) (fun hb6 => ?_)
      · refine TO.skip rfl rfl rfl (skipT hb6) rfl rfl ?_
        refine TO.skip rfl rfl rfl (skipT hb6) rfl rfl ?_
        refine TO.s rfl rfl rfl (StepS.pickT rfl hb6 rfl) ?_
        exact TO.up1 3 0 rfl rfl (by rw [hb6]; rfl) rfl
      · refine TO.sw rfl rfl rfl hb6 rfl rfl (StepS.move rfl) ?_
        refine TO.sw rfl rfl rfl hb6 rfl rfl (StepS.cmp rfl rfl rfl) ?_
        refine TO.s rfl rfl rfl (StepS.pickF rfl hb6 rfl) ?_
        exact TO.up1 3 0 rfl rfl (by rw [hb6]; rfl) rfl
    refine TO.code ?_
    refine TC.cond rfl (fun hc7 => ?_) (fun hc7 => ?_)
    · replace hm := cond_t hc7 hm
      refine TC.region ?_
      cases hm
    · replace hm := cond_f hc7 hm
      refine TC.skipk ?_
      refine TC.k ?_
      refine TC.region ?_
      refine TO.s rfl rfl rfl (StepS.move rfl) ?_
      refine TO.s rfl rfl rfl (StepS.cvVI kintB_42_u64_true kintB_3_i64_true rfl) ?_
      obtain ⟨y8, hk9, hm⟩ := bind_some hm
      refine TO.mkS (f := cU) (za := 0) kelemB_82_31_1_4_true kinfo_31_bind_zero_some_U_0 rfl (by decide) rfl rfl hk9 rfl fun v10 => ?_
      refine TO.s rfl rfl rfl (StepS.assign rfl) ?_
      refine TO.code ?_
      refine TC.k ?_
      refine TC.region ?_
      refine TO.s rfl rfl rfl (StepS.move rfl) ?_
      refine TO.s rfl rfl rfl (StepS.move rfl) ?_
      refine TO.copyO (f := cU) (l := y8) (m := a0) (o := 0) 0 ksliceB_82_31_1_true ⟨by decide, by omega⟩ rfl subv_self' rfl rfl e0.tl (fun x c hc => by simp [Value.oneCell'] at hc ⊢; first | (obtain rfl := hc; rfl)) rfl rfl ?_
      refine TO.s rfl rfl rfl (StepS.assign rfl) ?_
      refine TO.code ?_
      refine TC.k ?_
      obtain ⟨o17, hw18, hm⟩ := bind_some hm
      refine TC.loop hw18 (fun (y12, x13) => fun a w => Mid 48 B [(7, v10), (8, I x13)] (OwnS 31 1 v10 (y12.map cU) :: L) a w) (fun y16 => fun a w => Mid 48 B [(7, v10)] (OwnS 31 1 v10 (y16.map cU) :: L) a w) (fun (_ : Unit) _ _ => False) ?_ ?_ ?_ ?_
      · rintro ⟨y12, x13⟩ o17r hb19 a w ⟨he, hs⟩
        dsimp only [F64_L0] at hb19
        refine TC.use ?_ he hs
        refine TC.k ?_
        refine TC.k ?_
        refine TC.region ?_
        refine TO.s rfl rfl rfl (StepS.move rfl) ?_
        refine TO.s rfl rfl rfl (StepS.move rfl) ?_
        refine TO.s rfl rfl rfl (StepS.lenm rfl (OwnS.rd (Ent.at 0 rfl)) ksliceB_82_31_1_true rfl) ?_
        refine TO.s rfl rfl rfl (StepS.cmp rfl rfl rfl) ?_
        refine TO.code ?_
        refine TC.cond rfl (fun hc20 => ?_) (fun hc20 => ?_)
        · replace hb19 := cond_t hc20 hb19
          refine TC.skipk ?_
          refine TC.block ?_
          obtain ⟨⟨y22, x23⟩, hj24, hb19⟩ := bind_some hb19
          first | refine TC.cutM (fun a w => Mid 48 B [(7, v10), (8, I x23)] (OwnS 31 1 v10 (y22.map cU) :: L) a w) ?_ ?_ | refine TC.cutX (fun a w => Mid 48 B [(7, v10), (8, I x23)] (OwnS 31 1 v10 (y22.map cU) :: L) a w) ?_ ?_
          · obtain ⟨yq21_3_1, hsq21_3_2, hj24⟩ := bind_some hj24
            obtain ⟨yq21_6_1, hsq21_6_2, hj24⟩ := bind_some hj24
            refine TC.region_any (L) 10 10 kfollows_mixedOrders_true rfl ?_
            refine TA.takeW 0 rfl rfl rfl rfl (StepS.move rfl) (by kernel_rfl) (by kernel_rfl) (by kernel_rfl) rfl (.inr (fun _ s => by replace s := Sat.erase 0 s; exact s)) ?_
            refine TA.takeW 1 rfl rfl rfl rfl (StepS.move rfl) (by kernel_rfl) (by kernel_rfl) (by kernel_rfl) rfl (.inr (fun _ s => by replace s := Sat.erase 0 s; exact s)) ?_
            refine TA.takeW 2 rfl rfl rfl rfl (StepS.move rfl) (by kernel_rfl) (by kernel_rfl) (by kernel_rfl) rfl (.inr (fun _ s => by replace s := Sat.erase 0 s; exact s)) ?_
            refine TA.takeW 4 rfl rfl rfl rfl (StepS.move rfl) (by kernel_rfl) (by kernel_rfl) (by kernel_rfl) rfl (.inr (fun _ s => by replace s := Sat.erase 0 s; exact s)) ?_
            refine TA.takeW 5 rfl rfl rfl rfl (StepS.move rfl) (by kernel_rfl) (by kernel_rfl) (by kernel_rfl) rfl (.inr (fun _ s => by replace s := Sat.erase 0 s; exact s)) ?_
            refine TA.all2 (i := 3) (j := 6) (by kernel_rfl) ?_ ?_
            · refine TB.of rfl ?_
              obtain ⟨hsq21_3_2a, hsq21_3_2b, hsq21_3_2c, _⟩ := slI_spec hsq21_3_2
              refine TO.s rfl rfl rfl (StepS.slc rfl (OwnS.rd (Ent.at 0 rfl)) ksliceB_82_31_1_true rfl (by simp [bnd]) hsq21_3_2a hsq21_3_2b (by simpa using hsq21_3_2c)) ?_
              refine TA.back (.inr (fun _ s => by replace s := Sat.erase 0 s; exact s)) ?_
              refine TA.all1 (i := 6) (by kernel_rfl) ?_
              refine TB.of rfl ?_
              obtain ⟨hsq21_6_2a, hsq21_6_2b, hsq21_6_2c, _⟩ := slI_spec hsq21_6_2
              refine TO.s rfl rfl rfl (StepS.slc rfl (OwnS.rd (Ent.at 0 rfl)) ksliceB_82_31_1_true rfl rfl hsq21_6_2a hsq21_6_2b (by simpa using hsq21_6_2c)) ?_
              refine TA.back (.inr (fun _ s => by replace s := Sat.erase 0 s; exact s)) ?_
              refine TA.all1 (i := 7) (by kernel_rfl) ?_
              refine TB.of rfl ?_
              refine TO.copyO (f := cU) (l := y12) (m := yq21_6_1) (o := x13) 0 ksliceB_82_31_1_true ⟨hsq21_3_2a, hsq21_3_2b⟩ rfl (fun _ _ => rfl) rfl rfl (Ent.sub (OwnS.rd (Ent.at 0 rfl)) hsq21_6_2) (fun x c hc => by simp [Value.oneCell'] at hc ⊢; first | (obtain rfl := hc; rfl)) rfl rfl ?_
              refine TA.back (.inr (fun _ s => by replace s := Sat.erase 0 s; exact s)) ?_
              refine TA.takeW 8 rfl rfl rfl rfl (StepS.ari rfl rfl rfl) (by kernel_rfl) (by kernel_rfl) (by kernel_rfl) rfl (.inr (fun _ s => by replace s := Sat.erase 0 s; exact s)) ?_
              refine TA.takeW 9 rfl rfl rfl rfl (StepS.assign rfl) (by kernel_rfl) (by kernel_rfl) (by kernel_rfl) rfl (.inr (fun _ s => by replace s := Sat.erase 0 s; exact s)) ?_
              cases hj24
              refine TA.nil (by kernel_rfl) fun a w e s => ?_
              exact ⟨e.sub (lk_of_allIn ⟨rfl, rfl, trivial⟩), s⟩
            · refine TB.of rfl ?_
              obtain ⟨hsq21_6_2a, hsq21_6_2b, hsq21_6_2c, _⟩ := slI_spec hsq21_6_2
              refine TO.s rfl rfl rfl (StepS.slc rfl (OwnS.rd (Ent.at 0 rfl)) ksliceB_82_31_1_true rfl rfl hsq21_6_2a hsq21_6_2b (by simpa using hsq21_6_2c)) ?_
              refine TA.back (.inr (fun _ s => by replace s := Sat.erase 0 s; exact s)) ?_
              refine TA.all1 (i := 3) (by kernel_rfl) ?_
              refine TB.of rfl ?_
              obtain ⟨hsq21_3_2a, hsq21_3_2b, hsq21_3_2c, _⟩ := slI_spec hsq21_3_2
              refine TO.s rfl rfl rfl (StepS.slc rfl (OwnS.rd (Ent.at 0 rfl)) ksliceB_82_31_1_true rfl (by simp [bnd]) hsq21_3_2a hsq21_3_2b (by simpa using hsq21_3_2c)) ?_
              refine TA.back (.inr (fun _ s => by replace s := Sat.erase 0 s; exact s)) ?_
              refine TA.all1 (i := 7) (by kernel_rfl) ?_
              refine TB.of rfl ?_
              refine TO.copyO (f := cU) (l := y12) (m := yq21_6_1) (o := x13) 0 ksliceB_82_31_1_true ⟨hsq21_3_2a, hsq21_3_2b⟩ rfl (fun _ _ => rfl) rfl rfl (Ent.sub (OwnS.rd (Ent.at 0 rfl)) hsq21_6_2) (fun x c hc => by simp [Value.oneCell'] at hc ⊢; first | (obtain rfl := hc; rfl)) rfl rfl ?_
              refine TA.back (.inr (fun _ s => by replace s := Sat.erase 0 s; exact s)) ?_
              refine TA.takeW 8 rfl rfl rfl rfl (StepS.ari rfl rfl rfl) (by kernel_rfl) (by kernel_rfl) (by kernel_rfl) rfl (.inr (fun _ s => by replace s := Sat.erase 0 s; exact s)) ?_
              refine TA.takeW 9 rfl rfl rfl rfl (StepS.assign rfl) (by kernel_rfl) (by kernel_rfl) (by kernel_rfl) rfl (.inr (fun _ s => by replace s := Sat.erase 0 s; exact s)) ?_
              cases hj24
              refine TA.nil (by kernel_rfl) fun a w e s => ?_
              exact ⟨e.sub (lk_of_allIn ⟨rfl, rfl, trivial⟩), s⟩
          · intro a w ⟨he, hs⟩
            cases hb19
            have e := he; have s := hs
            exact ⟨e.sub (lk_of_allIn ⟨rfl, rfl, trivial⟩), s⟩
        · replace hb19 := cond_f hc20 hb19
          cases hb19
          refine TC.exit rfl fun a w e s => ?_
          exact ⟨e.sub (lk_of_allIn ⟨rfl, trivial⟩), s⟩
      · exact fun a w e s => ⟨e.sub (lk_of_allIn ⟨rfl, rfl, trivial⟩), s⟩
      · rintro y16 rfl a w ⟨he, hs⟩
        dsimp only [Ctl.on] at hm
        refine TC.use ?_ he hs
        refine TC.k ?_
        refine TC.region ?_
        refine TO.s rfl rfl rfl (StepS.move rfl) ?_
        refine TO.s rfl rfl rfl (StepS.assign rfl) ?_
        refine TO.code ?_
        cases hm
        refine TC.ret fun a w e s => ?_
        refine FRet.mk1 (P := Try.prog) (fn := Try.f64) (t := 4) e rfl rfl ?_
        refine ⟨_, _, rfl, ⟨(v10), rfl, rfl⟩, ?_⟩
        refine s.mono fun _ s => ?_
        replace s := Sat.front 0 rfl s
        exact s
      · rintro r rfl
        exact fun a w h => h.elim

set_option maxRecDepth 100000 in
theorem C65 {B : World} {L : List HP} {a0 : List (BitVec 32)} {h0 : Value} {r0 : List (BitVec 32)} (e0 : Ent L (Rd 1 h0 (a0.map cU))) (hm : F65 a0 = some r0) {w : World} (st : St B L w) : Calls Try.prog 65 #[h0] w (fun e w' => ∃ v M, e = .returned v ∧ (∃ (qr0 : Value), v = qr0 ∧ M = (OwnS 31 1 qr0 (r0.map cU) :: L)) ∧ St B M w') := by
  refine calls_of (N := 8) (L := L) (args := [h0]) Try.func65 rfl rfl rfl ?_ st
  dsimp only [F65] at hm
  refine TC.k ?_
  refine TC.region ?_
  refine TO.s rfl rfl rfl (StepS.assign rfl) ?_
  refine TO.code ?_
  refine TC.k ?_
  refine TC.k ?_
  refine TC.region ?_
  refine TO.s rfl rfl rfl (StepS.move rfl) ?_
  refine TO.nilck rfl e0 ksliceB_82_31_1_true rfl fun b hb => ?_
  refine TO.code ?_
  refine TC.cond rfl (fun hc => ?_) (fun hc => ?_)
  · have hn : a0 = [] := by simpa using hb hc
    subst hn
    have hr : r0 = [] := by simpa using (appl_spec hm).2.2
    subst hr
    refine TC.k ?_
    refine TC.region ?_
    refine TO.s rfl rfl rfl (StepS.assign rfl) ?_
    refine TO.code ?_
    refine TC.ret fun a w e s => ?_
    refine FRet.mk1 (P := Try.prog) (fn := Try.f65) (t := 2) e rfl rfl ?_
    exact ⟨_, _, rfl, ⟨_, rfl, rfl⟩, s.mono fun _ s => Sat.nilS s⟩
  · refine TC.skipk ?_
    refine TC.k ?_
    refine TC.region ?_
    refine TO.lit0 (f := cU) ksliceB_82_31_1_true rfl fun v1 => ?_
    refine TO.s rfl rfl rfl (StepS.move rfl) ?_
    refine TO.app (k := 0) (f := cU) kelemB_82_31_1_4_true (by decide) rfl rfl rfl e0.tl hm (fun x c hc => by simp [Value.oneCell'] at hc ⊢; first | (obtain rfl := hc; rfl) | (rcases hc with rfl <;> rfl)) rfl rfl fun v2 => ?_
    refine TO.s rfl rfl rfl (StepS.assign rfl) ?_
    refine TO.code ?_
    refine TC.ret fun a w e s => ?_
    refine FRet.mk1 (P := Try.prog) (fn := Try.f65) (t := 2) e rfl rfl ?_
    exact ⟨_, _, rfl, ⟨_, rfl, rfl⟩, s⟩

set_option maxHeartbeats 4000000 in
set_option maxRecDepth 100000 in
theorem C38 {B : World} {L : List HP} {a0 : List Int} {a1 : List (Int × Int × BitVec 32)} {a2 : Int} {h0 : Value} {h1 : Value} {r0 : List Int} {r1 : BitVec 32} {r2 : Int} (e0 : Ent L (Rd 1 h0 (a0.map cI))) (e1 : Ent L (Rd 3 h1 (a1.map cTiiiu32))) (hm : F38 a0 a1 a2 = some (r0, r1, r2)) {w : World} (st : St B L w) : Calls Try.prog 38 #[h0, h1, I a2] w (fun e w' => ∃ v M, e = .returned v ∧ (∃ (qv1 : Value), v = .tuple #[qv1, U r1, I r2] ∧ M = (OwnS 3 1 qv1 (r0.map cI) :: L)) ∧ St B M w') := by
  refine calls_of (N := 173) (L := L) (args := [h0, h1, I a2]) Try.func38 rfl rfl rfl ?_ st
  dsimp only [F38] at hm
  refine TC.k ?_
  refine TC.region ?_
  refine TO.s rfl rfl rfl (StepS.assign rfl) ?_
  refine TO.s rfl rfl rfl (StepS.assign rfl) ?_
  refine TO.s rfl rfl rfl (StepS.assign rfl) ?_
  refine TO.code ?_
  refine TC.k ?_
  refine TC.k ?_
  refine TC.region ?_
  refine TO.s rfl rfl rfl (StepS.move rfl) ?_
  refine TO.s rfl rfl rfl (StepS.move rfl) ?_
  refine TO.s rfl rfl rfl (StepS.move rfl) ?_
  obtain ⟨r2, hc3, hm⟩ := bind_some hm
  refine TO.q rfl rfl rfl (StepQ.call kcallB_63_true rfl rfl (fun _ st => C63 e0 e1 hc3 st)) ?_
  refine TO.s rfl rfl rfl (StepS.assign rfl) ?_
  refine TO.code ?_
  refine TC.k ?_
  refine TC.region ?_
  refine TO.s rfl rfl rfl (StepS.move rfl) ?_
  refine TO.s rfl rfl rfl (StepS.cmp rfl rfl rfl) ?_
  refine TO.code ?_
  refine TC.cond rfl (fun hc4 => ?_) (fun hc4 => ?_)
  · replace hm := cond_t hc4 hm
    refine TC.k ?_
    refine TC.region ?_
    refine TO.s rfl rfl rfl (StepS.move rfl) ?_
    refine TO.s rfl rfl rfl (StepS.assign rfl) ?_
    refine TO.s rfl rfl rfl (StepS.assign rfl) ?_
    refine TO.s rfl rfl rfl (StepS.assign rfl) ?_
    refine TO.code ?_
    cases hm
    refine TC.ret fun a w e s => ?_
    refine FRet.mk3 (P := Try.prog) (fn := Try.f38) (t := 6) (u := 7) (s := 8) e rfl rfl rfl rfl ?_
    refine ⟨_, _, rfl, ⟨(.slice none 0 0), rfl, rfl⟩, ?_⟩
    refine s.mono fun _ s => ?_
    replace s := Sat.nilS (e := 3) (sz := 1) (f := cI) s
    exact s
  · replace hm := cond_f hc4 hm
    refine TC.skipk ?_
    refine TC.k ?_
    refine TC.region ?_
    refine TO.s rfl rfl rfl (StepS.move rfl) ?_
    refine TO.s rfl rfl rfl (StepS.lenm rfl e0 ksliceB_22_3_1_true rfl) ?_
    refine TO.s rfl rfl rfl (StepS.assign rfl) ?_
    refine TO.code ?_
    refine TC.k ?_
    refine TC.region ?_
    refine TO.s rfl rfl rfl (StepS.move rfl) ?_
    obtain ⟨k5, hk6, hm⟩ := bind_some hm
    refine TO.s rfl rfl rfl (StepS.shlk (m := 1#32) rfl rfl hk6) ?_
    refine TO.s rfl rfl rfl (StepS.bitU (n := 1#32) rfl rfl rfl) ?_
    refine TO.s rfl rfl rfl (StepS.assign rfl) ?_
    refine TO.code ?_
    refine TC.k ?_
    refine TC.region ?_
    refine TO.s rfl rfl rfl (StepS.move rfl) ?_
    refine TO.s rfl rfl rfl (StepS.assign rfl) ?_
    refine TO.code ?_
    refine TC.k ?_
    refine TC.region ?_
    refine TO.s rfl rfl rfl (StepS.move rfl) ?_
    obtain ⟨y7, hk8, hm⟩ := bind_some hm
    refine TO.mkS (f := cU) (za := 0) kelemB_82_31_1_4_true kinfo_31_bind_zero_some_U_0 rfl (by decide) rfl rfl hk8 rfl fun v9 => ?_
    refine TO.s rfl rfl rfl (StepS.assign rfl) ?_
    refine TO.code ?_
    refine TC.k ?_
    refine TC.k ?_
    refine TC.region ?_
    refine TO.s rfl rfl rfl (StepS.move rfl) ?_
    refine TO.s rfl rfl rfl (StepS.lenm rfl (OwnS.rd (Ent.at 0 rfl)) ksliceB_82_31_1_true rfl) ?_
    refine TO.s rfl rfl rfl (StepS.move rfl) ?_
    refine TO.code ?_
    obtain ⟨o16, hw17, hm⟩ := bind_some hm
    refine TC.loop hw17 (fun (y11, x12) => fun a w => Mid 173 B [(0, h0), (1, h1), (2, I a2), (10, I (a0.length : Int)), (11, U (((1#32) <<< k5) - (1#32))), (12, U (((1#32) <<< k5) - (1#32))), (13, v9), (45, I (y7.length : Int)), (46, I x12)] (OwnS 31 1 v9 (y11.map cU) :: L) a w) (fun y15 => fun a w => Mid 173 B [(0, h0), (1, h1), (2, I a2), (10, I (a0.length : Int)), (11, U (((1#32) <<< k5) - (1#32))), (12, U (((1#32) <<< k5) - (1#32))), (13, v9)] (OwnS 31 1 v9 (y15.map cU) :: L) a w) (fun (_ : Unit) _ _ => False) ?_ ?_ ?_ ?_
    · rintro ⟨y11, x12⟩ o16r hb18 a w ⟨he, hs⟩
      dsimp only [F38_L0] at hb18
      refine TC.use ?_ he hs
      refine TC.k ?_
      refine TC.region ?_
      refine TO.s rfl rfl rfl (StepS.cmp rfl rfl rfl) ?_
      refine TO.code ?_
      refine TC.k ?_
      refine TC.cond rfl (fun hc19 => ?_) (fun hc19 => ?_)
      · replace hb18 := cond_t hc19 hb18
        refine TC.skipk ?_
        refine TC.k ?_
        refine TC.block ?_
        refine TC.k ?_
        refine TC.region ?_
        refine TO.s rfl rfl rfl (StepS.move rfl) ?_
        refine TO.s rfl rfl rfl (StepS.assign rfl) ?_
        refine TO.code ?_
        refine TC.region ?_
        refine TO.s rfl rfl rfl (StepS.move rfl) ?_
        refine TO.s rfl rfl rfl (StepS.move rfl) ?_
        refine TO.s rfl rfl rfl (StepS.move rfl) ?_
        obtain ⟨k20, hk21, hb18⟩ := bind_some hb18
        refine TO.s rfl rfl rfl (StepS.shlk (m := 1#32) rfl rfl hk21) ?_
        obtain ⟨x22, hx23, hb18⟩ := bind_some hb18
        refine TO.s rfl rfl rfl (StepS.idx rfl rfl (OwnS.rd (Ent.at 0 rfl)) ksliceB_82_31_1_true (idx_spec hx23).1 (idxm_lt hx23)) ?_
        refine TO.stO (i := x12.toNat) (off := 0) (us := [U ((1#32) <<< k20)]) 0 ((1#32) <<< k20) rfl rfl rfl ksizeB_31_1_true rfl rfl rfl (idx_spec hx23).2 rfl (by simp [Value.oneCell']) rfl ?_
        refine TO.code ?_
        refine TC.region ?_
        refine TO.s rfl rfl rfl (StepS.ari rfl rfl rfl) ?_
        refine TO.s rfl rfl rfl (StepS.move rfl) ?_
        cases hb18
        refine TO.nil fun a w e s => ?_
        exact ⟨e.sub (lk_of_allIn ⟨rfl, rfl, rfl, rfl, rfl, rfl, rfl, rfl, rfl, trivial⟩), s⟩
      · replace hb18 := cond_f hc19 hb18
        cases hb18
        refine TC.exit rfl fun a w e s => ?_
        exact ⟨e.sub (lk_of_allIn ⟨rfl, rfl, rfl, rfl, rfl, rfl, rfl, trivial⟩), s⟩
    · exact fun a w e s => ⟨e.sub (lk_of_allIn ⟨rfl, rfl, rfl, rfl, rfl, rfl, rfl, rfl, rfl, trivial⟩), s⟩
    · rintro y15 rfl a w ⟨he, hs⟩
      dsimp only [Ctl.on] at hm
      refine TC.use ?_ he hs
      refine TC.k ?_
      refine TC.k ?_
      refine TC.region ?_
      refine TO.s rfl rfl rfl (StepS.assign rfl) ?_
      refine TO.code ?_
      obtain ⟨o38, hw39, hm⟩ := bind_some hm
      refine TC.loop hw39 (fun (y26, x27, x28) => fun a w => ∃ v24 : Value, Mid 173 B [(0, h0), (1, h1), (2, I a2), (10, I (a0.length : Int)), (11, U (((1#32) <<< k5) - (1#32))), (12, U x27), (13, v24), (15, I x28)] (OwnS 31 1 v24 (y26.map cU) :: L) a w) (fun (y36, x37) => fun a w => ∃ v34 : Value, Mid 173 B [(0, h0), (10, I (a0.length : Int)), (12, U x37), (13, v34)] (OwnS 31 1 v34 (y36.map cU) :: L) a w) (fun (_ : Unit) _ _ => False) ?_ ?_ ?_ ?_
      · rintro ⟨y26, x27, x28⟩ o38r hb40 a w ⟨v24, he, hs⟩
        dsimp only [F38_L1] at hb40
        refine TC.use ?_ he hs
        refine TC.k ?_
        refine TC.k ?_
        refine TC.region ?_
        refine TO.s rfl rfl rfl (StepS.move rfl) ?_
        refine TO.s rfl rfl rfl (StepS.move rfl) ?_
        refine TO.s rfl rfl rfl (StepS.cmp rfl rfl rfl) ?_
        refine TO.code ?_
        refine TC.cond rfl (fun hc41 => ?_) (fun hc41 => ?_)
        · replace hb40 := cond_t hc41 hb40
          refine TC.skipk ?_
          refine TC.k ?_
          refine TC.block ?_
          refine TC.k ?_
          refine TC.region ?_
          refine TO.s rfl rfl rfl (StepS.move rfl) ?_
          refine TO.litS (f := cU) ([(((1#32) <<< k5) - (1#32))] : List (BitVec 32)) kelemB_82_31_1_4_true kinfo_31_bind_zero_some_U_0 rfl rfl (fun _ => rfl) rfl rfl (by kernel_rfl) rfl fun v42 => ?_
          refine TO.s rfl rfl rfl (StepS.move rfl) ?_
          obtain ⟨r44, hc45, hb40⟩ := bind_some hb40
          refine TO.callO kcallB_64_true rfl rfl rfl (fun _ st => C64 (OwnS.rd (Ent.at 0 rfl)) hc45 st) ?_
          rintro v46 _ ⟨_, rfl, rfl⟩
          refine TO.s rfl rfl rfl (StepS.assign rfl) ?_
          refine TO.code ?_
          refine TC.k ?_
          refine TC.region ?_
          refine TO.s rfl rfl rfl (StepS.move rfl) ?_
          refine TO.s rfl rfl rfl (StepS.assign rfl) ?_
          refine TO.code ?_
          refine TC.k ?_
          refine TC.k ?_
          refine TC.region ?_
          refine TO.s rfl rfl rfl (StepS.move rfl) ?_
          refine TO.s rfl rfl rfl (StepS.lenm rfl e1.tl.tl.tl ksliceB_63_100_3_true rfl) ?_
          refine TO.s rfl rfl rfl (StepS.move rfl) ?_
          refine TO.code ?_
          obtain ⟨o56, hw57, hb40⟩ := bind_some hb40
          refine TC.loop hw57 (fun (y48, x49, x50) => fun a w => Mid 173 B [(0, h0), (1, h1), (2, I a2), (10, I (a0.length : Int)), (11, U (((1#32) <<< k5) - (1#32))), (12, U x27), (13, v24), (15, I x28), (16, v46), (17, U x49), (65, h1), (66, I (a1.length : Int)), (67, I x50)] (OwnS 31 1 v46 (y48.map cU) :: OwnS 31 1 v42 (([(((1#32) <<< k5) - (1#32))] : List (BitVec 32)).map cU) :: OwnS 31 1 v24 (y26.map cU) :: L) a w) (fun (y54, x55) => fun a w => Mid 173 B [(0, h0), (1, h1), (2, I a2), (10, I (a0.length : Int)), (11, U (((1#32) <<< k5) - (1#32))), (12, U x27), (13, v24), (15, I x28), (16, v46), (17, U x55)] (OwnS 31 1 v46 (y54.map cU) :: OwnS 31 1 v42 (([(((1#32) <<< k5) - (1#32))] : List (BitVec 32)).map cU) :: OwnS 31 1 v24 (y26.map cU) :: L) a w) (fun (_ : Unit) _ _ => False) ?_ ?_ ?_ ?_
          · rintro ⟨y48, x49, x50⟩ o56r hb58 a w ⟨he, hs⟩
            dsimp only [F38_L2] at hb58
            refine TC.use ?_ he hs
            refine TC.k ?_
            refine TC.region ?_
            refine TO.s rfl rfl rfl (StepS.cmp rfl rfl rfl) ?_
            refine TO.code ?_
            refine TC.k ?_
            refine TC.cond rfl (fun hc59 => ?_) (fun hc59 => ?_)
            · replace hb58 := cond_t hc59 hb58
              refine TC.skipk ?_
              refine TC.k ?_
              obtain ⟨⟨y60, x61⟩, hj62, hb58⟩ := bind_some hb58
              first | refine TC.cutM (fun a w => Mid 173 B [(0, h0), (1, h1), (2, I a2), (10, I (a0.length : Int)), (11, U (((1#32) <<< k5) - (1#32))), (12, U x27), (13, v24), (15, I x28), (16, v46), (17, U x61), (65, h1), (66, I (a1.length : Int)), (67, I x50)] (OwnS 31 1 v46 (y60.map cU) :: OwnS 31 1 v42 (([(((1#32) <<< k5) - (1#32))] : List (BitVec 32)).map cU) :: OwnS 31 1 v24 (y26.map cU) :: L) a w) ?_ ?_ | refine TC.cutX (fun a w => Mid 173 B [(0, h0), (1, h1), (2, I a2), (10, I (a0.length : Int)), (11, U (((1#32) <<< k5) - (1#32))), (12, U x27), (13, v24), (15, I x28), (16, v46), (17, U x61), (65, h1), (66, I (a1.length : Int)), (67, I x50)] (OwnS 31 1 v46 (y60.map cU) :: OwnS 31 1 v42 (([(((1#32) <<< k5) - (1#32))] : List (BitVec 32)).map cU) :: OwnS 31 1 v24 (y26.map cU) :: L) a w) ?_ ?_
              · refine TC.block ?_
                refine TC.k ?_
                refine TC.region ?_
                obtain ⟨x63, hx64, hj62⟩ := bind_some hj62
                refine TO.s rfl rfl rfl (StepS.idx rfl rfl e1.tl.tl.tl ksliceB_63_100_3_true (idx_spec hx64).1 (idxm_lt hx64)) ?_
                refine TO.s rfl rfl rfl (StepS.ldE rfl e1.tl.tl.tl kaggB_100_3_true rfl (idxm hx64)) ?_
                refine TO.alloc kinfo_100_bind_zero_some_agg_I_0_I_0_U_0 rfl rfl fun b65 => ?_
                refine TO.stB (us := [I x63.1, I x63.2.1, U x63.2.2]) 0 [I x63.1, I x63.2.1, U x63.2.2] rfl rfl rfl ksizeB_100_3_true rfl rfl rfl (by simp [Value.oneCell']) rfl ?_
                refine TO.code ?_
                refine TC.k ?_
                refine TC.region ?_
                refine TO.s rfl rfl rfl (StepS.fld rfl kfieldB_100_1_1_true) ?_
                refine TO.s rfl rfl rfl (StepS.ldB rfl (Ent.at 0 rfl) kscalB_3_true rfl) ?_
                refine TO.s rfl rfl rfl (StepS.move rfl) ?_
                refine TO.s rfl rfl rfl (StepS.cmp rfl rfl rfl) ?_
                refine TO.code ?_
                refine TC.cond rfl (fun hc66 => ?_) (fun hc66 => ?_)
                · replace hj62 := cond_t hc66 hj62
                  refine TC.k ?_
                  refine TC.region ?_
                  refine TO.s rfl rfl rfl (StepS.move rfl) ?_
                  refine TO.s rfl rfl rfl (StepS.fld rfl kfieldB_100_0_0_true) ?_
                  refine TO.s rfl rfl rfl (StepS.ldB rfl (Ent.at 0 rfl) kscalB_3_true rfl) ?_
                  refine TO.s rfl rfl rfl (StepS.fld rfl kfieldB_100_2_2_true) ?_
                  refine TO.s rfl rfl rfl (StepS.ldB rfl (Ent.at 0 rfl) kscalB_31_true rfl) ?_
                  obtain ⟨x67, hx68, hj62⟩ := bind_some hj62
                  refine TO.s rfl rfl rfl (StepS.idx rfl rfl (OwnS.rd (Ent.at 1 rfl)) ksliceB_82_31_1_true (idx_spec hx68).1 (idxm_lt hx68)) ?_
                  refine TO.stO (i := x63.1.toNat) (off := 0) (us := [U x63.2.2]) 1 x63.2.2 rfl rfl rfl ksizeB_31_1_true rfl rfl rfl (idx_spec hx68).2 rfl (by simp [Value.oneCell']) rfl ?_
                  refine TO.code ?_
                  refine TC.region ?_
                  refine TO.s rfl rfl rfl (StepS.move rfl) ?_
                  refine TO.s rfl rfl rfl (StepS.fld rfl kfieldB_100_0_0_true) ?_
                  refine TO.s rfl rfl rfl (StepS.ldB rfl (Ent.at 0 rfl) kscalB_3_true rfl) ?_
                  obtain ⟨k69, hk70, hj62⟩ := bind_some hj62
                  refine TO.s rfl rfl rfl (StepS.shlk (m := 1#32) rfl rfl hk70) ?_
                  refine TO.s rfl rfl rfl (StepS.bitU rfl rfl rfl) ?_
                  refine TO.s rfl rfl rfl (StepS.assign rfl) ?_
                  cases hj62
                  refine TO.nil fun a w e s => ?_
                  exact ⟨e.sub (lk_of_allIn ⟨rfl, rfl, rfl, rfl, rfl, rfl, rfl, rfl, rfl, rfl, rfl, rfl, rfl, trivial⟩), s.mono fun _ => Sat.dropN 1⟩
                · replace hj62 := cond_f hc66 hj62
                  cases hj62
                  refine TC.skip fun a w e s => ?_
                  exact ⟨e.sub (lk_of_allIn ⟨rfl, rfl, rfl, rfl, rfl, rfl, rfl, rfl, rfl, rfl, rfl, rfl, rfl, trivial⟩), s.mono fun _ => Sat.dropN 1⟩
              · intro a w ⟨he, hs⟩
                refine TC.use ?_ he hs
                refine TC.region ?_
                refine TO.s rfl rfl rfl (StepS.ari rfl rfl rfl) ?_
                refine TO.s rfl rfl rfl (StepS.move rfl) ?_
                cases hb58
                refine TO.nil fun a w e s => ?_
                exact ⟨e.sub (lk_of_allIn ⟨rfl, rfl, rfl, rfl, rfl, rfl, rfl, rfl, rfl, rfl, rfl, rfl, rfl, trivial⟩), s⟩
            · replace hb58 := cond_f hc59 hb58
              cases hb58
              refine TC.exit rfl fun a w e s => ?_
              exact ⟨e.sub (lk_of_allIn ⟨rfl, rfl, rfl, rfl, rfl, rfl, rfl, rfl, rfl, rfl, trivial⟩), s⟩
          · exact fun a w e s => ⟨e.sub (lk_of_allIn ⟨rfl, rfl, rfl, rfl, rfl, rfl, rfl, rfl, rfl, rfl, rfl, rfl, rfl, trivial⟩), s⟩
          · rintro ⟨y54, x55⟩ rfl a w ⟨he, hs⟩
            dsimp only [Ctl.on] at hb40
            refine TC.use ?_ he hs
            refine TC.k ?_
            refine TC.region ?_
            refine TO.s rfl rfl rfl (StepS.move rfl) ?_
            obtain ⟨r71, hc72, hb40⟩ := bind_some hb40
            refine TO.callO kcallB_65_true rfl rfl rfl (fun _ st => C65 (OwnS.rd (Ent.at 2 rfl)) hc72 st) ?_
            rintro v73 _ ⟨_, rfl, rfl⟩
            refine TO.s rfl rfl rfl (StepS.assign rfl) ?_
            refine TO.code ?_
            refine TC.k ?_
            refine TC.k ?_
            refine TC.region ?_
            refine TO.s rfl rfl rfl (StepS.move rfl) ?_
            refine TO.s rfl rfl rfl (StepS.lenm rfl (OwnS.rd (Ent.at 3 rfl)) ksliceB_82_31_1_true rfl) ?_
            refine TO.s rfl rfl rfl (StepS.move rfl) ?_
            refine TO.code ?_
            obtain ⟨o80, hw81, hb40⟩ := bind_some hb40
            refine TC.loop hw81 (fun (y75, x76) => fun a w => Mid 173 B [(0, h0), (1, h1), (2, I a2), (10, I (a0.length : Int)), (11, U (((1#32) <<< k5) - (1#32))), (12, U x27), (15, I x28), (16, v46), (17, U x55), (20, v73), (89, v24), (90, I (y26.length : Int)), (91, I x76)] (OwnS 31 1 v73 (y75.map cU) :: OwnS 31 1 v46 (y54.map cU) :: OwnS 31 1 v42 (([(((1#32) <<< k5) - (1#32))] : List (BitVec 32)).map cU) :: OwnS 31 1 v24 (y26.map cU) :: L) a w) (fun y79 => fun a w => Mid 173 B [(0, h0), (1, h1), (2, I a2), (10, I (a0.length : Int)), (11, U (((1#32) <<< k5) - (1#32))), (15, I x28), (17, U x55), (20, v73)] (OwnS 31 1 v73 (y79.map cU) :: OwnS 31 1 v46 (y54.map cU) :: OwnS 31 1 v42 (([(((1#32) <<< k5) - (1#32))] : List (BitVec 32)).map cU) :: OwnS 31 1 v24 (y26.map cU) :: L) a w) (fun (_ : Unit) _ _ => False) ?_ ?_ ?_ ?_
            · rintro ⟨y75, x76⟩ o80r hb82 a w ⟨he, hs⟩
              dsimp only [F38_L3] at hb82
              refine TC.use ?_ he hs
              refine TC.k ?_
              refine TC.region ?_
              refine TO.s rfl rfl rfl (StepS.cmp rfl rfl rfl) ?_
              refine TO.code ?_
              refine TC.k ?_
              refine TC.cond rfl (fun hc83 => ?_) (fun hc83 => ?_)
              · replace hb82 := cond_t hc83 hb82
                refine TC.skipk ?_
                refine TC.k ?_
                refine TC.block ?_
                refine TC.k ?_
                refine TC.region ?_
                refine TO.s rfl rfl rfl (StepS.move rfl) ?_
                obtain ⟨x84, hx85, hb82⟩ := bind_some hb82
                refine TO.s rfl rfl rfl (StepS.idx rfl rfl (OwnS.rd (Ent.at 3 rfl)) ksliceB_82_31_1_true (idx_spec hx85).1 (idxm_lt hx85)) ?_
                refine TO.s rfl rfl rfl (StepS.ld0 rfl (OwnS.rd (Ent.at 3 rfl)) kscalB_31_true rfl (idxm hx85) rfl) ?_
                refine TO.s rfl rfl rfl (StepS.assign rfl) ?_
                refine TO.s rfl rfl rfl (StepS.assign rfl) ?_
                refine TO.code ?_
                refine TC.k ?_
                refine TC.region ?_
                refine TO.s rfl rfl rfl (StepS.move rfl) ?_
                refine TO.s rfl rfl rfl (StepS.lenm rfl (OwnS.rd (Ent.at 0 rfl)) ksliceB_82_31_1_true rfl) ?_
                refine TO.s rfl rfl rfl (StepS.move rfl) ?_
                refine TO.code ?_
                obtain ⟨o91, hw92, hb82⟩ := bind_some hb82
                refine TC.loop hw92 (fun (y86, x87) => fun a w => Mid 173 B [(0, h0), (1, h1), (2, I a2), (10, I (a0.length : Int)), (11, U (((1#32) <<< k5) - (1#32))), (12, U x27), (15, I x28), (16, v46), (17, U x55), (20, v73), (21, I x76), (22, U x84), (89, v24), (90, I (y26.length : Int)), (91, I x76), (97, I (y75.length : Int)), (98, I x87)] (OwnS 31 1 v73 (y86.map cU) :: OwnS 31 1 v46 (y54.map cU) :: OwnS 31 1 v42 (([(((1#32) <<< k5) - (1#32))] : List (BitVec 32)).map cU) :: OwnS 31 1 v24 (y26.map cU) :: L) a w) (fun y90 => fun a w => Mid 173 B [(0, h0), (1, h1), (2, I a2), (10, I (a0.length : Int)), (11, U (((1#32) <<< k5) - (1#32))), (12, U x27), (15, I x28), (16, v46), (17, U x55), (20, v73), (89, v24), (90, I (y26.length : Int)), (91, I x76)] (OwnS 31 1 v73 (y90.map cU) :: OwnS 31 1 v46 (y54.map cU) :: OwnS 31 1 v42 (([(((1#32) <<< k5) - (1#32))] : List (BitVec 32)).map cU) :: OwnS 31 1 v24 (y26.map cU) :: L) a w) (fun (_ : Unit) _ _ => False) ?_ ?_ ?_ ?_
                · rintro ⟨y86, x87⟩ o91r hb93 a w ⟨he, hs⟩
                  dsimp only [F38_L4] at hb93
                  refine TC.use ?_ he hs
                  refine TC.k ?_
                  refine TC.region ?_
                  refine TO.s rfl rfl rfl (StepS.cmp rfl rfl rfl) ?_
                  refine TO.code ?_
                  refine TC.k ?_
                  refine TC.cond rfl (fun hc94 => ?_) (fun hc94 => ?_)
                  · replace hb93 := cond_t hc94 hb93
                    refine TC.skipk ?_
                    refine TC.k ?_
                    obtain ⟨y95, hj96, hb93⟩ := bind_some hb93
                    first | refine TC.cutM (fun a w => Mid 173 B [(0, h0), (1, h1), (2, I a2), (10, I (a0.length : Int)), (11, U (((1#32) <<< k5) - (1#32))), (12, U x27), (15, I x28), (16, v46), (17, U x55), (20, v73), (21, I x76), (22, U x84), (89, v24), (90, I (y26.length : Int)), (91, I x76), (97, I (y75.length : Int)), (98, I x87)] (OwnS 31 1 v73 (y95.map cU) :: OwnS 31 1 v46 (y54.map cU) :: OwnS 31 1 v42 (([(((1#32) <<< k5) - (1#32))] : List (BitVec 32)).map cU) :: OwnS 31 1 v24 (y26.map cU) :: L) a w) ?_ ?_ | refine TC.cutX (fun a w => Mid 173 B [(0, h0), (1, h1), (2, I a2), (10, I (a0.length : Int)), (11, U (((1#32) <<< k5) - (1#32))), (12, U x27), (15, I x28), (16, v46), (17, U x55), (20, v73), (21, I x76), (22, U x84), (89, v24), (90, I (y26.length : Int)), (91, I x76), (97, I (y75.length : Int)), (98, I x87)] (OwnS 31 1 v73 (y95.map cU) :: OwnS 31 1 v46 (y54.map cU) :: OwnS 31 1 v42 (([(((1#32) <<< k5) - (1#32))] : List (BitVec 32)).map cU) :: OwnS 31 1 v24 (y26.map cU) :: L) a w) ?_ ?_
                    · refine TC.block ?_
                      refine TC.k ?_
                      refine TC.region ?_
                      refine TO.s rfl rfl rfl (StepS.move rfl) ?_
                      refine TO.s rfl rfl rfl (StepS.assign rfl) ?_
                      refine TO.code ?_
                      refine TC.k ?_
                      refine TC.region ?_
                      refine TO.s rfl rfl rfl (StepS.move rfl) ?_
                      refine TO.s rfl rfl rfl (StepS.move rfl) ?_
                      obtain ⟨k97, hk98, hj96⟩ := bind_some hj96
                      refine TO.s rfl rfl rfl (StepS.shrk rfl rfl hk98) ?_
                      refine TO.s rfl rfl rfl (StepS.bitU (n := 1#32) rfl rfl rfl) ?_
                      refine TO.s rfl rfl rfl (StepS.cmpU (n := 1#32) rfl rfl rfl) ?_
                      refine TO.s rfl rfl rfl (StepS.move rfl) ?_
                      obtain ⟨b100, hj101, hj96⟩ := bind_some hj96
                      refine TO.mid1 9 115 (.bool b100) ?_ ?_
                      · refine bcase ((((x27 >>> k97) &&& (1#32)) == (1#32))) (fun hb99 => ?_) (fun hb99 => ?_)
                        · replace hj101 := cond_t hb99 hj101
                          refine TO.sw rfl rfl rfl hb99 rfl rfl (StepS.move rfl) ?_
                          refine TO.sw rfl rfl rfl hb99 rfl rfl (StepS.move rfl) ?_
                          obtain ⟨x102, hx103, hj101⟩ := bind_some hj101
                          refine TO.sw rfl rfl rfl hb99 rfl rfl (StepS.idx rfl rfl (OwnS.rd (Ent.at 1 rfl)) ksliceB_82_31_1_true (idx_spec hx103).1 (idxm_lt hx103)) ?_
                          refine TO.sw rfl rfl rfl hb99 rfl rfl (StepS.ld0 rfl (OwnS.rd (Ent.at 1 rfl)) kscalB_31_true rfl (idxm hx103) rfl) ?_
                          refine TO.sw rfl rfl rfl hb99 rfl rfl (StepS.move rfl) ?_
                          obtain ⟨k104, hk105, hj101⟩ := bind_some hj101
                          refine TO.sw rfl rfl rfl hb99 rfl rfl (StepS.shrk rfl rfl hk105) ?_
                          refine TO.sw rfl rfl rfl hb99 rfl rfl (StepS.bitU (n := 1#32) rfl rfl rfl) ?_
                          refine TO.sw rfl rfl rfl hb99 rfl rfl (StepS.cmpU (n := 1#32) rfl rfl rfl) ?_
                          cases hj101
                          refine TO.s rfl rfl rfl (StepS.pickT rfl hb99 rfl) ?_
                          exact TO.up1 9 0 rfl rfl rfl rfl
                        · replace hj101 := cond_f hb99 hj101
                          cases hj101
                          refine TO.skip rfl rfl rfl (skipF hb99) rfl rfl ?_
                          refine TO.skip rfl rfl rfl (skipF hb99) rfl rfl ?_
                          refine TO.skip rfl rfl rfl (skipF hb99) rfl rfl ?_
                          refine TO.skip rfl rfl rfl (skipF hb99) rfl rfl ?_
                          refine TO.skip rfl rfl rfl (skipF hb99) rfl rfl ?_
                          refine TO.skip rfl rfl rfl (skipF hb99) rfl rfl ?_
                          refine TO.skip rfl rfl rfl (skipF hb99) rfl rfl ?_
                          refine TO.skip rfl rfl rfl (skipF hb99) rfl rfl ?_
                          refine TO.s rfl rfl rfl (StepS.pickF rfl hb99 rfl) ?_
                          exact TO.up1 9 0 rfl rfl rfl rfl
                      refine TO.code ?_
                      refine TC.cond rfl (fun hc106 => ?_) (fun hc106 => ?_)
                      · replace hj96 := cond_t hc106 hj96
                        refine TC.region ?_
                        refine TO.s rfl rfl rfl (StepS.move rfl) ?_
                        refine TO.s rfl rfl rfl (StepS.move rfl) ?_
                        obtain ⟨x107, hx108, hj96⟩ := bind_some hj96
                        refine TO.s rfl rfl rfl (StepS.idx rfl rfl (OwnS.rd (Ent.at 0 rfl)) ksliceB_82_31_1_true (idx_spec hx108).1 (idxm_lt hx108)) ?_
                        refine TO.s rfl rfl rfl (StepS.ld0 rfl (OwnS.rd (Ent.at 0 rfl)) kscalB_31_true rfl (idxm hx108) rfl) ?_
                        refine TO.s rfl rfl rfl (StepS.move rfl) ?_
                        refine TO.s rfl rfl rfl (StepS.bitU rfl rfl rfl) ?_
                        obtain ⟨x109, hx110, hj96⟩ := bind_some hj96
                        refine TO.s rfl rfl rfl (StepS.idx rfl rfl (OwnS.rd (Ent.at 0 rfl)) ksliceB_82_31_1_true (idx_spec hx110).1 (idxm_lt hx110)) ?_
                        refine TO.stO (i := x87.toNat) (off := 0) (us := [U (x107 ||| x84)]) 0 (x107 ||| x84) rfl rfl rfl ksizeB_31_1_true rfl rfl rfl (idx_spec hx110).2 rfl (by simp [Value.oneCell']) rfl ?_
                        cases hj96
                        refine TO.nil fun a w e s => ?_
                        exact ⟨e.sub (lk_of_allIn ⟨rfl, rfl, rfl, rfl, rfl, rfl, rfl, rfl, rfl, rfl, rfl, rfl, rfl, rfl, rfl, rfl, rfl, trivial⟩), s⟩
                      · replace hj96 := cond_f hc106 hj96
                        cases hj96
                        refine TC.skip fun a w e s => ?_
                        exact ⟨e.sub (lk_of_allIn ⟨rfl, rfl, rfl, rfl, rfl, rfl, rfl, rfl, rfl, rfl, rfl, rfl, rfl, rfl, rfl, rfl, rfl, trivial⟩), s⟩
                    · intro a w ⟨he, hs⟩
                      refine TC.use ?_ he hs
                      refine TC.region ?_
                      refine TO.s rfl rfl rfl (StepS.ari rfl rfl rfl) ?_
                      refine TO.s rfl rfl rfl (StepS.move rfl) ?_
                      cases hb93
                      refine TO.nil fun a w e s => ?_
                      exact ⟨e.sub (lk_of_allIn ⟨rfl, rfl, rfl, rfl, rfl, rfl, rfl, rfl, rfl, rfl, rfl, rfl, rfl, rfl, rfl, rfl, rfl, trivial⟩), s⟩
                  · replace hb93 := cond_f hc94 hb93
                    cases hb93
                    refine TC.exit rfl fun a w e s => ?_
                    exact ⟨e.sub (lk_of_allIn ⟨rfl, rfl, rfl, rfl, rfl, rfl, rfl, rfl, rfl, rfl, rfl, rfl, rfl, trivial⟩), s⟩
                · exact fun a w e s => ⟨e.sub (lk_of_allIn ⟨rfl, rfl, rfl, rfl, rfl, rfl, rfl, rfl, rfl, rfl, rfl, rfl, rfl, rfl, rfl, rfl, rfl, trivial⟩), s⟩
                · rintro y90 rfl a w ⟨he, hs⟩
                  dsimp only [Ctl.on] at hb82
                  refine TC.use ?_ he hs
                  refine TC.region ?_
                  refine TO.s rfl rfl rfl (StepS.ari rfl rfl rfl) ?_
                  refine TO.s rfl rfl rfl (StepS.move rfl) ?_
                  cases hb82
                  refine TO.nil fun a w e s => ?_
                  exact ⟨e.sub (lk_of_allIn ⟨rfl, rfl, rfl, rfl, rfl, rfl, rfl, rfl, rfl, rfl, rfl, rfl, rfl, trivial⟩), s⟩
                · rintro r rfl
                  exact fun a w h => h.elim
              · replace hb82 := cond_f hc83 hb82
                cases hb82
                refine TC.exit rfl fun a w e s => ?_
                exact ⟨e.sub (lk_of_allIn ⟨rfl, rfl, rfl, rfl, rfl, rfl, rfl, rfl, trivial⟩), s⟩
            · exact fun a w e s => ⟨e.sub (lk_of_allIn ⟨rfl, rfl, rfl, rfl, rfl, rfl, rfl, rfl, rfl, rfl, rfl, rfl, rfl, trivial⟩), s⟩
            · rintro y79 rfl a w ⟨he, hs⟩
              dsimp only [Ctl.on] at hb40
              refine TC.use ?_ he hs
              refine TC.region ?_
              refine TO.s rfl rfl rfl (StepS.move rfl) ?_
              refine TO.s rfl rfl rfl (StepS.move rfl) ?_
              refine TO.s rfl rfl rfl (StepS.assign rfl) ?_
              refine TO.s rfl rfl rfl (StepS.assign rfl) ?_
              refine TO.code ?_
              refine TC.region ?_
              refine TO.s rfl rfl rfl (StepS.move rfl) ?_
              refine TO.s rfl rfl rfl (StepS.ari rfl rfl rfl) ?_
              refine TO.s rfl rfl rfl (StepS.assign rfl) ?_
              cases hb40
              refine TO.nil fun a w e s => ?_
              exact ⟨v73, e.sub (lk_of_allIn ⟨rfl, rfl, rfl, rfl, rfl, rfl, rfl, rfl, trivial⟩), s.mono fun _ s => (by replace s := Sat.front 0 rfl s; replace s := Sat.erase 1 s; replace s := Sat.erase 1 s; replace s := Sat.erase 1 s; exact s)⟩
            · rintro r rfl
              exact fun a w h => h.elim
          · rintro r rfl
            exact fun a w h => h.elim
        · replace hb40 := cond_f hc41 hb40
          cases hb40
          refine TC.exit rfl fun a w e s => ?_
          exact ⟨v24, e.sub (lk_of_allIn ⟨rfl, rfl, rfl, rfl, trivial⟩), s⟩
      · exact fun a w e s => ⟨v9, e.sub (lk_of_allIn ⟨rfl, rfl, rfl, rfl, rfl, rfl, rfl, rfl, trivial⟩), s⟩
      · rintro ⟨y36, x37⟩ rfl a w ⟨v34, he, hs⟩
        dsimp only [Ctl.on] at hm
        refine TC.use ?_ he hs
        refine TC.k ?_
        refine TC.region ?_
        refine TO.s rfl rfl rfl (StepS.move rfl) ?_
        obtain ⟨y111, hk112, hm⟩ := bind_some hm
        refine TO.mkS (f := cI) (za := 0) kelemB_22_3_1_8_true kinfo_3_bind_zero_some_I_0 rfl (by decide) rfl rfl hk112 rfl fun v113 => ?_
        refine TO.s rfl rfl rfl (StepS.assign rfl) ?_
        refine TO.code ?_
        refine TC.k ?_
        refine TC.k ?_
        refine TC.region ?_
        refine TO.s rfl rfl rfl (StepS.move rfl) ?_
        refine TO.s rfl rfl rfl (StepS.lenm rfl (OwnS.rd (Ent.at 1 rfl)) ksliceB_82_31_1_true rfl) ?_
        refine TO.s rfl rfl rfl (StepS.move rfl) ?_
        refine TO.code ?_
        obtain ⟨o120, hw121, hm⟩ := bind_some hm
        refine TC.loop hw121 (fun (y115, x116) => fun a w => Mid 173 B [(0, h0), (12, U x37), (24, v113), (129, v34), (130, I (y36.length : Int)), (131, I x116)] (OwnS 3 1 v113 (y115.map cI) :: OwnS 31 1 v34 (y36.map cU) :: L) a w) (fun y119 => fun a w => Mid 173 B [(12, U x37), (24, v113)] (OwnS 3 1 v113 (y119.map cI) :: OwnS 31 1 v34 (y36.map cU) :: L) a w) (fun (_ : Unit) _ _ => False) ?_ ?_ ?_ ?_
        · rintro ⟨y115, x116⟩ o120r hb122 a w ⟨he, hs⟩
          dsimp only [F38_L5] at hb122
          refine TC.use ?_ he hs
          refine TC.k ?_
          refine TC.region ?_
          refine TO.s rfl rfl rfl (StepS.cmp rfl rfl rfl) ?_
          refine TO.code ?_
          refine TC.k ?_
          refine TC.cond rfl (fun hc123 => ?_) (fun hc123 => ?_)
          · replace hb122 := cond_t hc123 hb122
            refine TC.skipk ?_
            refine TC.k ?_
            obtain ⟨y124, hj125, hb122⟩ := bind_some hb122
            first | refine TC.cutM (fun a w => Mid 173 B [(0, h0), (12, U x37), (24, v113), (129, v34), (130, I (y36.length : Int)), (131, I x116)] (OwnS 3 1 v113 (y124.map cI) :: OwnS 31 1 v34 (y36.map cU) :: L) a w) ?_ ?_ | refine TC.cutX (fun a w => Mid 173 B [(0, h0), (12, U x37), (24, v113), (129, v34), (130, I (y36.length : Int)), (131, I x116)] (OwnS 3 1 v113 (y124.map cI) :: OwnS 31 1 v34 (y36.map cU) :: L) a w) ?_ ?_
            · refine TC.block ?_
              refine TC.k ?_
              refine TC.region ?_
              refine TO.s rfl rfl rfl (StepS.move rfl) ?_
              obtain ⟨x126, hx127, hj125⟩ := bind_some hj125
              refine TO.s rfl rfl rfl (StepS.idx rfl rfl (OwnS.rd (Ent.at 1 rfl)) ksliceB_82_31_1_true (idx_spec hx127).1 (idxm_lt hx127)) ?_
              refine TO.s rfl rfl rfl (StepS.ld0 rfl (OwnS.rd (Ent.at 1 rfl)) kscalB_31_true rfl (idxm hx127) rfl) ?_
              refine TO.s rfl rfl rfl (StepS.assign rfl) ?_
              refine TO.s rfl rfl rfl (StepS.assign rfl) ?_
              refine TO.code ?_
              refine TC.k ?_
              refine TC.k ?_
              refine TC.region ?_
              refine TO.s rfl rfl rfl (StepS.move rfl) ?_
              refine TO.s rfl rfl rfl (StepS.move rfl) ?_
              obtain ⟨k128, hk129, hj125⟩ := bind_some hj125
              refine TO.s rfl rfl rfl (StepS.shrk rfl rfl hk129) ?_
              refine TO.s rfl rfl rfl (StepS.bitU (n := 1#32) rfl rfl rfl) ?_
              refine TO.s rfl rfl rfl (StepS.cmpU (n := 0#32) rfl rfl rfl) ?_
              refine TO.code ?_
              refine TC.cond rfl (fun hc130 => ?_) (fun hc130 => ?_)
              · replace hj125 := cond_t hc130 hj125
                cases hj125
                refine TC.exit rfl fun a w e s => ?_
                exact ⟨e.sub (lk_of_allIn ⟨rfl, rfl, rfl, rfl, rfl, rfl, trivial⟩), s⟩
              · replace hj125 := cond_f hc130 hj125
                refine TC.skipk ?_
                refine TC.k ?_
                refine TC.region ?_
                refine TO.s rfl rfl rfl (StepS.move rfl) ?_
                refine TO.s rfl rfl rfl (StepS.move rfl) ?_
                refine TO.s rfl rfl rfl (StepS.move rfl) ?_
                refine TO.s rfl rfl rfl (StepS.move rfl) ?_
                obtain ⟨x131, hx132, hj125⟩ := bind_some hj125
                refine TO.s rfl rfl rfl (StepS.idx rfl rfl e0.tl.tl ksliceB_22_3_1_true (idx_spec hx132).1 (idxm_lt hx132)) ?_
                refine TO.s rfl rfl rfl (StepS.ld0 rfl e0.tl.tl kscalB_3_true rfl (idxm hx132) rfl) ?_
                obtain ⟨x133, hx134, hj125⟩ := bind_some hj125
                refine TO.s rfl rfl rfl (StepS.idx rfl rfl (OwnS.rd (Ent.at 0 rfl)) ksliceB_22_3_1_true (idx_spec hx134).1 (idxm_lt hx134)) ?_
                refine TO.stO (i := x116.toNat) (off := 0) (us := [I x131]) 0 x131 rfl rfl rfl ksizeB_3_1_true rfl rfl rfl (idx_spec hx134).2 rfl (by simp [Value.oneCell']) rfl ?_
                refine TO.code ?_
                refine TC.k ?_
                refine TC.region ?_
                refine TO.s rfl rfl rfl (StepS.move rfl) ?_
                refine TO.s rfl rfl rfl (StepS.lenm rfl e0.tl.tl ksliceB_22_3_1_true rfl) ?_
                refine TO.s rfl rfl rfl (StepS.move rfl) ?_
                refine TO.code ?_
                obtain ⟨o140, hw141, hj125⟩ := bind_some hj125
                refine TC.loop hw141 (fun (y135, x136) => fun a w => Mid 173 B [(0, h0), (12, U x37), (24, v113), (25, I x116), (26, U x126), (129, v34), (130, I (y36.length : Int)), (131, I x116), (148, h0), (149, I (a0.length : Int)), (150, I x136)] (OwnS 3 1 v113 (y135.map cI) :: OwnS 31 1 v34 (y36.map cU) :: L) a w) (fun y139 => fun a w => Mid 173 B [(0, h0), (12, U x37), (24, v113), (129, v34), (130, I (y36.length : Int)), (131, I x116)] (OwnS 3 1 v113 (y139.map cI) :: OwnS 31 1 v34 (y36.map cU) :: L) a w) (fun (_ : Unit) _ _ => False) ?_ ?_ ?_ ?_
                · rintro ⟨y135, x136⟩ o140r hb142 a w ⟨he, hs⟩
                  dsimp only [F38_L6] at hb142
                  refine TC.use ?_ he hs
                  refine TC.k ?_
                  refine TC.region ?_
                  refine TO.s rfl rfl rfl (StepS.cmp rfl rfl rfl) ?_
                  refine TO.code ?_
                  refine TC.k ?_
                  refine TC.cond rfl (fun hc143 => ?_) (fun hc143 => ?_)
                  · replace hb142 := cond_t hc143 hb142
                    refine TC.skipk ?_
                    refine TC.k ?_
                    obtain ⟨y144, hj145, hb142⟩ := bind_some hb142
                    first | refine TC.cutM (fun a w => Mid 173 B [(0, h0), (12, U x37), (24, v113), (25, I x116), (26, U x126), (129, v34), (130, I (y36.length : Int)), (131, I x116), (148, h0), (149, I (a0.length : Int)), (150, I x136)] (OwnS 3 1 v113 (y144.map cI) :: OwnS 31 1 v34 (y36.map cU) :: L) a w) ?_ ?_ | refine TC.cutX (fun a w => Mid 173 B [(0, h0), (12, U x37), (24, v113), (25, I x116), (26, U x126), (129, v34), (130, I (y36.length : Int)), (131, I x116), (148, h0), (149, I (a0.length : Int)), (150, I x136)] (OwnS 3 1 v113 (y144.map cI) :: OwnS 31 1 v34 (y36.map cU) :: L) a w) ?_ ?_
                    · refine TC.block ?_
                      refine TC.k ?_
                      refine TC.region ?_
                      refine TO.s rfl rfl rfl (StepS.move rfl) ?_
                      obtain ⟨x146, hx147, hj145⟩ := bind_some hj145
                      refine TO.s rfl rfl rfl (StepS.idx rfl rfl e0.tl.tl ksliceB_22_3_1_true (idx_spec hx147).1 (idxm_lt hx147)) ?_
                      refine TO.s rfl rfl rfl (StepS.ld0 rfl e0.tl.tl kscalB_3_true rfl (idxm hx147) rfl) ?_
                      refine TO.s rfl rfl rfl (StepS.assign rfl) ?_
                      refine TO.s rfl rfl rfl (StepS.assign rfl) ?_
                      refine TO.code ?_
                      refine TC.k ?_
                      refine TC.region ?_
                      refine TO.s rfl rfl rfl (StepS.move rfl) ?_
                      refine TO.s rfl rfl rfl (StepS.move rfl) ?_
                      obtain ⟨k148, hk149, hj145⟩ := bind_some hj145
                      refine TO.s rfl rfl rfl (StepS.shrk rfl rfl hk149) ?_
                      refine TO.s rfl rfl rfl (StepS.bitU (n := 1#32) rfl rfl rfl) ?_
                      refine TO.s rfl rfl rfl (StepS.cmpU (n := 1#32) rfl rfl rfl) ?_
                      refine TO.code ?_
                      refine TC.cond rfl (fun hc150 => ?_) (fun hc150 => ?_)
                      · replace hj145 := cond_t hc150 hj145
                        refine TC.region ?_
                        refine TO.s rfl rfl rfl (StepS.move rfl) ?_
                        refine TO.s rfl rfl rfl (StepS.move rfl) ?_
                        refine TO.s rfl rfl rfl (StepS.move rfl) ?_
                        refine TO.s rfl rfl rfl (StepS.move rfl) ?_
                        obtain ⟨x151, hx152, hj145⟩ := bind_some hj145
                        refine TO.s rfl rfl rfl (StepS.idx rfl rfl (OwnS.rd (Ent.at 0 rfl)) ksliceB_22_3_1_true (idx_spec hx152).1 (idxm_lt hx152)) ?_
                        refine TO.s rfl rfl rfl (StepS.ld0 rfl (OwnS.rd (Ent.at 0 rfl)) kscalB_3_true rfl (idxm hx152) rfl) ?_
                        refine TO.s rfl rfl rfl (StepS.move rfl) ?_
                        refine TO.s rfl rfl rfl (StepS.min2 rfl rfl) ?_
                        obtain ⟨x153, hx154, hj145⟩ := bind_some hj145
                        refine TO.s rfl rfl rfl (StepS.idx rfl rfl (OwnS.rd (Ent.at 0 rfl)) ksliceB_22_3_1_true (idx_spec hx154).1 (idxm_lt hx154)) ?_
                        refine TO.stO (i := x116.toNat) (off := 0) (us := [I (mn x151 x146)]) 0 (mn x151 x146) rfl rfl rfl ksizeB_3_1_true rfl rfl rfl (idx_spec hx154).2 rfl (by simp [Value.oneCell']) rfl ?_
                        cases hj145
                        refine TO.nil fun a w e s => ?_
                        exact ⟨e.sub (lk_of_allIn ⟨rfl, rfl, rfl, rfl, rfl, rfl, rfl, rfl, rfl, rfl, rfl, trivial⟩), s⟩
                      · replace hj145 := cond_f hc150 hj145
                        cases hj145
                        refine TC.skip fun a w e s => ?_
                        exact ⟨e.sub (lk_of_allIn ⟨rfl, rfl, rfl, rfl, rfl, rfl, rfl, rfl, rfl, rfl, rfl, trivial⟩), s⟩
                    · intro a w ⟨he, hs⟩
                      refine TC.use ?_ he hs
                      refine TC.region ?_
                      refine TO.s rfl rfl rfl (StepS.ari rfl rfl rfl) ?_
                      refine TO.s rfl rfl rfl (StepS.move rfl) ?_
                      cases hb142
                      refine TO.nil fun a w e s => ?_
                      exact ⟨e.sub (lk_of_allIn ⟨rfl, rfl, rfl, rfl, rfl, rfl, rfl, rfl, rfl, rfl, rfl, trivial⟩), s⟩
                  · replace hb142 := cond_f hc143 hb142
                    cases hb142
                    refine TC.exit rfl fun a w e s => ?_
                    exact ⟨e.sub (lk_of_allIn ⟨rfl, rfl, rfl, rfl, rfl, rfl, trivial⟩), s⟩
                · exact fun a w e s => ⟨e.sub (lk_of_allIn ⟨rfl, rfl, rfl, rfl, rfl, rfl, rfl, rfl, rfl, rfl, rfl, trivial⟩), s⟩
                · rintro y139 rfl a w ⟨he, hs⟩
                  dsimp only [Ctl.on] at hj125
                  cases hj125
                  have e := he; have s := hs
                  exact ⟨e.sub (lk_of_allIn ⟨rfl, rfl, rfl, rfl, rfl, rfl, trivial⟩), s⟩
                · rintro r rfl
                  exact fun a w h => h.elim
            · intro a w ⟨he, hs⟩
              refine TC.use ?_ he hs
              refine TC.region ?_
              refine TO.s rfl rfl rfl (StepS.ari rfl rfl rfl) ?_
              refine TO.s rfl rfl rfl (StepS.move rfl) ?_
              cases hb122
              refine TO.nil fun a w e s => ?_
              exact ⟨e.sub (lk_of_allIn ⟨rfl, rfl, rfl, rfl, rfl, rfl, trivial⟩), s⟩
          · replace hb122 := cond_f hc123 hb122
            cases hb122
            refine TC.exit rfl fun a w e s => ?_
            exact ⟨e.sub (lk_of_allIn ⟨rfl, rfl, trivial⟩), s⟩
        · exact fun a w e s => ⟨e.sub (lk_of_allIn ⟨rfl, rfl, rfl, rfl, rfl, rfl, trivial⟩), s⟩
        · rintro y119 rfl a w ⟨he, hs⟩
          dsimp only [Ctl.on] at hm
          refine TC.use ?_ he hs
          refine TC.k ?_
          refine TC.region ?_
          refine TO.s rfl rfl rfl (StepS.move rfl) ?_
          refine TO.s rfl rfl rfl (StepS.move rfl) ?_
          refine TO.s rfl rfl rfl (StepS.assign rfl) ?_
          refine TO.s rfl rfl rfl (StepS.assign rfl) ?_
          refine TO.s rfl rfl rfl (StepS.assign rfl) ?_
          refine TO.code ?_
          cases hm
          refine TC.ret fun a w e s => ?_
          refine FRet.mk3 (P := Try.prog) (fn := Try.f38) (t := 6) (u := 7) (s := 8) e rfl rfl rfl rfl ?_
          refine ⟨_, _, rfl, ⟨(v113), rfl, rfl⟩, ?_⟩
          refine s.mono fun _ s => ?_
          replace s := Sat.front 0 rfl s
          replace s := Sat.erase 1 s
          exact s
        · rintro r rfl
          exact fun a w h => h.elim
      · rintro r rfl
        exact fun a w h => h.elim
    · rintro r rfl
      exact fun a w h => h.elim

set_option maxRecDepth 100000 in
theorem C39 {B : World} {L : List HP} {a0 : List Int} {a1 : List (Int × Int × BitVec 32)} {a2 : Int} {h0 : Value} {h1 : Value} {r0 : Int} (e0 : Ent L (Rd 1 h0 (a0.map cI))) (e1 : Ent L (Rd 3 h1 (a1.map cTiiiu32))) (hm : F39 a0 a1 a2 = some r0) {w : World} (st : St B L w) : Calls Try.prog 39 #[h0, h1, I a2] w (fun e w' => (e = .returned (I r0) ∧ St B (L) w')) := by
  refine calls_of (N := 92) (L := L) (args := [h0, h1, I a2]) Try.func39 rfl rfl rfl ?_ st
  dsimp only [F39] at hm
  refine TC.k ?_
  refine TC.region ?_
  refine TO.s rfl rfl rfl (StepS.assign rfl) ?_
  refine TO.code ?_
  refine TC.k ?_
  refine TC.region ?_
  refine TO.s rfl rfl rfl (StepS.move rfl) ?_
  refine TO.s rfl rfl rfl (StepS.lenm rfl e0 ksliceB_22_3_1_true rfl) ?_
  refine TO.s rfl rfl rfl (StepS.assign rfl) ?_
  refine TO.code ?_
  refine TC.k ?_
  refine TC.k ?_
  refine TC.region ?_
  refine TO.s rfl rfl rfl (StepS.move rfl) ?_
  refine TO.s rfl rfl rfl (StepS.cmp rfl rfl rfl) ?_
  refine TO.s rfl rfl rfl (StepS.move rfl) ?_
  refine TO.mid1 3 21 (.bool ((decide ((a0.length : Int) < 1)) || (decide ((a0.length : Int) > 6)))) ?_ ?_
  · refine bcase ((decide ((a0.length : Int) < 1))) (fun hb1 => ?_) (fun hb1 => ?_)
    · refine TO.skip rfl rfl rfl (skipT hb1) rfl rfl ?_
      refine TO.skip rfl rfl rfl (skipT hb1) rfl rfl ?_
      refine TO.s rfl rfl rfl (StepS.pickT rfl hb1 rfl) ?_
      exact TO.up1 3 0 rfl rfl (by rw [hb1]; rfl) rfl
    · refine TO.sw rfl rfl rfl hb1 rfl rfl (StepS.move rfl) ?_
      refine TO.sw rfl rfl rfl hb1 rfl rfl (StepS.cmp rfl rfl rfl) ?_
      refine TO.s rfl rfl rfl (StepS.pickF rfl hb1 rfl) ?_
      exact TO.up1 3 0 rfl rfl (by rw [hb1]; rfl) rfl
  refine TO.s rfl rfl rfl (StepS.move rfl) ?_
  refine TO.mid1 3 25 (.bool (((decide ((a0.length : Int) < 1)) || (decide ((a0.length : Int) > 6))) || (decide (a2 < 0)))) ?_ ?_
  · refine bcase (((decide ((a0.length : Int) < 1)) || (decide ((a0.length : Int) > 6)))) (fun hb2 => ?_) (fun hb2 => ?_)
    · refine TO.skip rfl rfl rfl (skipT hb2) rfl rfl ?_
      refine TO.skip rfl rfl rfl (skipT hb2) rfl rfl ?_
      refine TO.s rfl rfl rfl (StepS.pickT rfl hb2 rfl) ?_
      exact TO.up1 3 0 rfl rfl (by rw [hb2]; rfl) rfl
    · refine TO.sw rfl rfl rfl hb2 rfl rfl (StepS.move rfl) ?_
      refine TO.sw rfl rfl rfl hb2 rfl rfl (StepS.cmp rfl rfl rfl) ?_
      refine TO.s rfl rfl rfl (StepS.pickF rfl hb2 rfl) ?_
      exact TO.up1 3 0 rfl rfl (by rw [hb2]; rfl) rfl
  refine TO.s rfl rfl rfl (StepS.move rfl) ?_
  refine TO.mid1 3 29 (.bool ((((decide ((a0.length : Int) < 1)) || (decide ((a0.length : Int) > 6))) || (decide (a2 < 0))) || (decide (a2 > 8)))) ?_ ?_
  · refine bcase ((((decide ((a0.length : Int) < 1)) || (decide ((a0.length : Int) > 6))) || (decide (a2 < 0)))) (fun hb3 => ?_) (fun hb3 => ?_)
    · refine TO.skip rfl rfl rfl (skipT hb3) rfl rfl ?_
      refine TO.skip rfl rfl rfl (skipT hb3) rfl rfl ?_
      refine TO.s rfl rfl rfl (StepS.pickT rfl hb3 rfl) ?_
      exact TO.up1 3 0 rfl rfl (by rw [hb3]; rfl) rfl
    · refine TO.sw rfl rfl rfl hb3 rfl rfl (StepS.move rfl) ?_
      refine TO.sw rfl rfl rfl hb3 rfl rfl (StepS.cmp rfl rfl rfl) ?_
      refine TO.s rfl rfl rfl (StepS.pickF rfl hb3 rfl) ?_
      exact TO.up1 3 0 rfl rfl (by rw [hb3]; rfl) rfl
  refine TO.code ?_
  refine TC.cond rfl (fun hc4 => ?_) (fun hc4 => ?_)
  · replace hm := cond_t hc4 hm
    refine TC.k ?_
    refine TC.region ?_
    refine TO.s rfl rfl rfl (StepS.assign rfl) ?_
    refine TO.code ?_
    cases hm
    refine TC.ret fun a w e s => ?_
    refine FRet.mk1 (P := Try.prog) (fn := Try.f39) (t := 6) e rfl rfl ?_
    exact ⟨rfl, s.mono fun _ => Sat.dropN 0⟩
  · replace hm := cond_f hc4 hm
    refine TC.skipk ?_
    refine TC.k ?_
    refine TC.k ?_
    refine TC.region ?_
    refine TO.s rfl rfl rfl (StepS.move rfl) ?_
    refine TO.s rfl rfl rfl (StepS.lenm rfl e1 ksliceB_63_100_3_true rfl) ?_
    refine TO.s rfl rfl rfl (StepS.move rfl) ?_
    refine TO.code ?_
    obtain ⟨o7, hw8, hm⟩ := bind_some hm
    refine TC.loop hw8 (fun x5 => fun a w => Mid 92 B [(1, h1), (2, I a2), (7, I (a0.length : Int)), (30, h1), (31, I (a1.length : Int)), (32, I x5)] (L) a w) (fun _ => fun a w => Mid 92 B [(1, h1), (2, I a2), (7, I (a0.length : Int))] (L) a w) (fun r0 => FRet Try.prog Try.f39 (fun e w' => (e = .returned (I r0) ∧ St B (L) w'))) ?_ ?_ ?_ ?_
    · rintro x5 o7r hb9 a w ⟨he, hs⟩
      dsimp only [F39_L0] at hb9
      refine TC.use ?_ he hs
      refine TC.k ?_
      refine TC.region ?_
      refine TO.s rfl rfl rfl (StepS.cmp rfl rfl rfl) ?_
      refine TO.code ?_
      refine TC.k ?_
      refine TC.cond rfl (fun hc10 => ?_) (fun hc10 => ?_)
      · replace hb9 := cond_t hc10 hb9
        refine TC.skipk ?_
        refine TC.k ?_
        refine TC.block ?_
        refine TC.k ?_
        refine TC.region ?_
        obtain ⟨x11, hx12, hb9⟩ := bind_some hb9
        refine TO.s rfl rfl rfl (StepS.idx rfl rfl e1 ksliceB_63_100_3_true (idx_spec hx12).1 (idxm_lt hx12)) ?_
        refine TO.s rfl rfl rfl (StepS.ldE rfl e1 kaggB_100_3_true rfl (idxm hx12)) ?_
        refine TO.alloc kinfo_100_bind_zero_some_agg_I_0_I_0_U_0 rfl rfl fun b13 => ?_
        refine TO.stB (us := [I x11.1, I x11.2.1, U x11.2.2]) 0 [I x11.1, I x11.2.1, U x11.2.2] rfl rfl rfl ksizeB_100_3_true rfl rfl rfl (by simp [Value.oneCell']) rfl ?_
        refine TO.code ?_
        refine TC.k ?_
        refine TC.region ?_
        refine TO.s rfl rfl rfl (StepS.fld rfl kfieldB_100_0_0_true) ?_
        refine TO.s rfl rfl rfl (StepS.ldB rfl (Ent.at 0 rfl) kscalB_3_true rfl) ?_
        refine TO.s rfl rfl rfl (StepS.cmp rfl rfl rfl) ?_
        refine TO.s rfl rfl rfl (StepS.move rfl) ?_
        refine TO.mid1 5 44 (.bool ((decide (x11.1 < 0)) || (decide (x11.1 ≥ (a0.length : Int))))) ?_ ?_
        · refine bcase ((decide (x11.1 < 0))) (fun hb14 => ?_) (fun hb14 => ?_)
          · refine TO.skip rfl rfl rfl (skipT hb14) rfl rfl ?_
            refine TO.skip rfl rfl rfl (skipT hb14) rfl rfl ?_
            refine TO.skip rfl rfl rfl (skipT hb14) rfl rfl ?_
            refine TO.skip rfl rfl rfl (skipT hb14) rfl rfl ?_
            refine TO.s rfl rfl rfl (StepS.pickT rfl hb14 rfl) ?_
            exact TO.up1 5 0 rfl rfl (by rw [hb14]; rfl) rfl
          · refine TO.sw rfl rfl rfl hb14 rfl rfl (StepS.fld rfl kfieldB_100_0_0_true) ?_
            refine TO.sw rfl rfl rfl hb14 rfl rfl (StepS.ldB rfl (Ent.at 0 rfl) kscalB_3_true rfl) ?_
            refine TO.sw rfl rfl rfl hb14 rfl rfl (StepS.move rfl) ?_
            refine TO.sw rfl rfl rfl hb14 rfl rfl (StepS.cmp rfl rfl rfl) ?_
            refine TO.s rfl rfl rfl (StepS.pickF rfl hb14 rfl) ?_
            exact TO.up1 5 0 rfl rfl (by rw [hb14]; rfl) rfl
        refine TO.code ?_
        refine TC.cond rfl (fun hc15 => ?_) (fun hc15 => ?_)
        · replace hb9 := cond_t hc15 hb9
          refine TC.k ?_
          refine TC.region ?_
          refine TO.s rfl rfl rfl (StepS.assign rfl) ?_
          refine TO.code ?_
          cases hb9
          refine TC.ret fun a w e s => ?_
          refine FRet.mk1 (P := Try.prog) (fn := Try.f39) (t := 6) e rfl rfl ?_
          exact ⟨rfl, s.mono fun _ => Sat.dropN 1⟩
        · replace hb9 := cond_f hc15 hb9
          refine TC.skipk ?_
          refine TC.region ?_
          refine TO.s rfl rfl rfl (StepS.ari rfl rfl rfl) ?_
          refine TO.s rfl rfl rfl (StepS.move rfl) ?_
          cases hb9
          refine TO.nil fun a w e s => ?_
          exact ⟨e.sub (lk_of_allIn ⟨rfl, rfl, rfl, rfl, rfl, rfl, trivial⟩), s.mono fun _ => Sat.dropN 1⟩
      · replace hb9 := cond_f hc10 hb9
        cases hb9
        refine TC.exit rfl fun a w e s => ?_
        exact ⟨e.sub (lk_of_allIn ⟨rfl, rfl, rfl, trivial⟩), s⟩
    · exact fun a w e s => ⟨e.sub (lk_of_allIn ⟨rfl, rfl, rfl, rfl, rfl, rfl, trivial⟩), s⟩
    · rintro _ rfl a w ⟨he, hs⟩
      dsimp only [Ctl.on] at hm
      refine TC.use ?_ he hs
      refine TC.k ?_
      refine TC.k ?_
      refine TC.region ?_
      refine TO.s rfl rfl rfl (StepS.move rfl) ?_
      refine TO.s rfl rfl rfl (StepS.lenm rfl e1 ksliceB_63_100_3_true rfl) ?_
      refine TO.s rfl rfl rfl (StepS.move rfl) ?_
      refine TO.code ?_
      obtain ⟨o18, hw19, hm⟩ := bind_some hm
      refine TC.loop hw19 (fun x16 => fun a w => Mid 92 B [(1, h1), (2, I a2), (7, I (a0.length : Int)), (46, h1), (47, I (a1.length : Int)), (48, I x16)] (L) a w) (fun _ => fun a w => Mid 92 B [(1, h1)] (L) a w) (fun r0 => FRet Try.prog Try.f39 (fun e w' => (e = .returned (I r0) ∧ St B (L) w'))) ?_ ?_ ?_ ?_
      · rintro x16 o18r hb20 a w ⟨he, hs⟩
        dsimp only [F39_L1] at hb20
        refine TC.use ?_ he hs
        refine TC.k ?_
        refine TC.region ?_
        refine TO.s rfl rfl rfl (StepS.cmp rfl rfl rfl) ?_
        refine TO.code ?_
        refine TC.k ?_
        refine TC.cond rfl (fun hc21 => ?_) (fun hc21 => ?_)
        · replace hb20 := cond_t hc21 hb20
          refine TC.skipk ?_
          refine TC.k ?_
          refine TC.block ?_
          refine TC.k ?_
          refine TC.region ?_
          obtain ⟨x22, hx23, hb20⟩ := bind_some hb20
          refine TO.s rfl rfl rfl (StepS.idx rfl rfl e1 ksliceB_63_100_3_true (idx_spec hx23).1 (idxm_lt hx23)) ?_
          refine TO.s rfl rfl rfl (StepS.ldE rfl e1 kaggB_100_3_true rfl (idxm hx23)) ?_
          refine TO.alloc kinfo_100_bind_zero_some_agg_I_0_I_0_U_0 rfl rfl fun b24 => ?_
          refine TO.stB (us := [I x22.1, I x22.2.1, U x22.2.2]) 0 [I x22.1, I x22.2.1, U x22.2.2] rfl rfl rfl ksizeB_100_3_true rfl rfl rfl (by simp [Value.oneCell']) rfl ?_
          refine TO.code ?_
          refine TC.k ?_
          refine TC.region ?_
          refine TO.s rfl rfl rfl (StepS.fld rfl kfieldB_100_1_1_true) ?_
          refine TO.s rfl rfl rfl (StepS.ldB rfl (Ent.at 0 rfl) kscalB_3_true rfl) ?_
          refine TO.s rfl rfl rfl (StepS.cmp rfl rfl rfl) ?_
          refine TO.s rfl rfl rfl (StepS.move rfl) ?_
          refine TO.mid1 5 60 (.bool ((decide (x22.2.1 < 1)) || (decide (x22.2.1 > a2)))) ?_ ?_
          · refine bcase ((decide (x22.2.1 < 1))) (fun hb25 => ?_) (fun hb25 => ?_)
            · refine TO.skip rfl rfl rfl (skipT hb25) rfl rfl ?_
              refine TO.skip rfl rfl rfl (skipT hb25) rfl rfl ?_
              refine TO.skip rfl rfl rfl (skipT hb25) rfl rfl ?_
              refine TO.skip rfl rfl rfl (skipT hb25) rfl rfl ?_
              refine TO.s rfl rfl rfl (StepS.pickT rfl hb25 rfl) ?_
              exact TO.up1 5 0 rfl rfl (by rw [hb25]; rfl) rfl
            · refine TO.sw rfl rfl rfl hb25 rfl rfl (StepS.fld rfl kfieldB_100_1_1_true) ?_
              refine TO.sw rfl rfl rfl hb25 rfl rfl (StepS.ldB rfl (Ent.at 0 rfl) kscalB_3_true rfl) ?_
              refine TO.sw rfl rfl rfl hb25 rfl rfl (StepS.move rfl) ?_
              refine TO.sw rfl rfl rfl hb25 rfl rfl (StepS.cmp rfl rfl rfl) ?_
              refine TO.s rfl rfl rfl (StepS.pickF rfl hb25 rfl) ?_
              exact TO.up1 5 0 rfl rfl (by rw [hb25]; rfl) rfl
          refine TO.s rfl rfl rfl (StepS.move rfl) ?_
          refine TO.mid1 7 68 (.bool (((decide (x22.2.1 < 1)) || (decide (x22.2.1 > a2))) || (decide (((1#32) <<< (u64 (a0.length : Int)).toNat) ≤ x22.2.2)))) ?_ ?_
          · refine bcase (((decide (x22.2.1 < 1)) || (decide (x22.2.1 > a2)))) (fun hb26 => ?_) (fun hb26 => ?_)
            · refine TO.skip rfl rfl rfl (skipT hb26) rfl rfl ?_
              refine TO.skip rfl rfl rfl (skipT hb26) rfl rfl ?_
              refine TO.skip rfl rfl rfl (skipT hb26) rfl rfl ?_
              refine TO.skip rfl rfl rfl (skipT hb26) rfl rfl ?_
              refine TO.skip rfl rfl rfl (skipT hb26) rfl rfl ?_
              refine TO.skip rfl rfl rfl (skipT hb26) rfl rfl ?_
              refine TO.s rfl rfl rfl (StepS.pickT rfl hb26 rfl) ?_
              exact TO.up1 7 0 rfl rfl (by rw [hb26]; rfl) rfl
            · refine TO.sw rfl rfl rfl hb26 rfl rfl (StepS.fld rfl kfieldB_100_2_2_true) ?_
              refine TO.sw rfl rfl rfl hb26 rfl rfl (StepS.ldB rfl (Ent.at 0 rfl) kscalB_31_true rfl) ?_
              refine TO.sw rfl rfl rfl hb26 rfl rfl (StepS.move rfl) ?_
              refine TO.sw rfl rfl rfl hb26 rfl rfl (StepS.cvIV kintB_3_i64_true kintB_42_u64_true rfl) ?_
              refine TO.sw rfl rfl rfl hb26 rfl rfl (StepS.shl (m := 1#32) rfl rfl (u64_nonneg _)) ?_
              refine TO.sw rfl rfl rfl hb26 rfl rfl (StepS.cmpU rfl rfl rfl) ?_
              refine TO.s rfl rfl rfl (StepS.pickF rfl hb26 rfl) ?_
              exact TO.up1 7 0 rfl rfl (by rw [hb26]; rfl) rfl
          refine TO.code ?_
          refine TC.cond rfl (fun hc27 => ?_) (fun hc27 => ?_)
          · replace hb20 := cond_t hc27 hb20
            refine TC.k ?_
            refine TC.region ?_
            refine TO.s rfl rfl rfl (StepS.assign rfl) ?_
            refine TO.code ?_
            cases hb20
            refine TC.ret fun a w e s => ?_
            refine FRet.mk1 (P := Try.prog) (fn := Try.f39) (t := 6) e rfl rfl ?_
            exact ⟨rfl, s.mono fun _ => Sat.dropN 1⟩
          · replace hb20 := cond_f hc27 hb20
            refine TC.skipk ?_
            refine TC.region ?_
            refine TO.s rfl rfl rfl (StepS.ari rfl rfl rfl) ?_
            refine TO.s rfl rfl rfl (StepS.move rfl) ?_
            cases hb20
            refine TO.nil fun a w e s => ?_
            exact ⟨e.sub (lk_of_allIn ⟨rfl, rfl, rfl, rfl, rfl, rfl, trivial⟩), s.mono fun _ => Sat.dropN 1⟩
        · replace hb20 := cond_f hc21 hb20
          cases hb20
          refine TC.exit rfl fun a w e s => ?_
          exact ⟨e.sub (lk_of_allIn ⟨rfl, trivial⟩), s⟩
      · exact fun a w e s => ⟨e.sub (lk_of_allIn ⟨rfl, rfl, rfl, rfl, rfl, rfl, trivial⟩), s⟩
      · rintro _ rfl a w ⟨he, hs⟩
        dsimp only [Ctl.on] at hm
        refine TC.use ?_ he hs
        refine TC.k ?_
        refine TC.k ?_
        refine TC.region ?_
        refine TO.s rfl rfl rfl (StepS.assign rfl) ?_
        refine TO.code ?_
        obtain ⟨o30, hw31, hm⟩ := bind_some hm
        refine TC.loop hw31 (fun x28 => fun a w => Mid 92 B [(1, h1), (12, I x28)] (L) a w) (fun _ => fun a w => Mid 92 B [] (L) a w) (fun r0 => FRet Try.prog Try.f39 (fun e w' => (e = .returned (I r0) ∧ St B (L) w'))) ?_ ?_ ?_ ?_
        · rintro x28 o30r hb32 a w ⟨he, hs⟩
          dsimp only [F39_L2] at hb32
          refine TC.use ?_ he hs
          refine TC.k ?_
          refine TC.k ?_
          refine TC.region ?_
          refine TO.s rfl rfl rfl (StepS.move rfl) ?_
          refine TO.s rfl rfl rfl (StepS.move rfl) ?_
          refine TO.s rfl rfl rfl (StepS.lenm rfl e1 ksliceB_63_100_3_true rfl) ?_
          refine TO.s rfl rfl rfl (StepS.cmp rfl rfl rfl) ?_
          refine TO.code ?_
          refine TC.cond rfl (fun hc33 => ?_) (fun hc33 => ?_)
          · replace hb32 := cond_t hc33 hb32
            refine TC.skipk ?_
            refine TC.k ?_
            refine TC.block ?_
            refine TC.k ?_
            refine TC.region ?_
            refine TO.s rfl rfl rfl (StepS.assign rfl) ?_
            refine TO.code ?_
            obtain ⟨o36, hw37, hb32⟩ := bind_some hb32
            refine TC.loop hw37 (fun x34 => fun a w => Mid 92 B [(1, h1), (12, I x28), (13, I x34)] (L) a w) (fun _ => fun a w => Mid 92 B [(1, h1), (12, I x28)] (L) a w) (fun r0 => FRet Try.prog Try.f39 (fun e w' => (e = .returned (I r0) ∧ St B (L) w'))) ?_ ?_ ?_ ?_
            · rintro x34 o36r hb38 a w ⟨he, hs⟩
              dsimp only [F39_L3] at hb38
              refine TC.use ?_ he hs
              refine TC.k ?_
              refine TC.k ?_
              refine TC.region ?_
              refine TO.s rfl rfl rfl (StepS.move rfl) ?_
              refine TO.s rfl rfl rfl (StepS.move rfl) ?_
              refine TO.s rfl rfl rfl (StepS.cmp rfl rfl rfl) ?_
              refine TO.code ?_
              refine TC.cond rfl (fun hc39 => ?_) (fun hc39 => ?_)
              · replace hb38 := cond_t hc39 hb38
                refine TC.skipk ?_
                refine TC.k ?_
                refine TC.block ?_
                refine TC.k ?_
                refine TC.region_still kfollows_mixedOrders_true (by kernel_rfl) ?_
                refine TS.s rfl rfl rfl (StepS.move rfl) ?_
                refine TS.s rfl rfl rfl (StepS.move rfl) ?_
                obtain ⟨x40, hx41, hb38⟩ := bind_some hb38
                refine TS.s rfl rfl rfl (StepS.idx rfl rfl e1 ksliceB_63_100_3_true (idx_spec hx41).1 (idxm_lt hx41)) ?_
                refine TS.s rfl rfl rfl (StepS.ptrf rfl kfieldB_100_0_0_true) ?_
                refine TS.s rfl rfl rfl (StepS.ld1 rfl e1 kscalB_3_true rfl (idxm hx41) rfl) ?_
                refine TS.s rfl rfl rfl (StepS.move rfl) ?_
                refine TS.s rfl rfl rfl (StepS.move rfl) ?_
                obtain ⟨x42, hx43, hb38⟩ := bind_some hb38
                refine TS.s rfl rfl rfl (StepS.idx rfl rfl e1 ksliceB_63_100_3_true (idx_spec hx43).1 (idxm_lt hx43)) ?_
                refine TS.s rfl rfl rfl (StepS.ptrf rfl kfieldB_100_0_0_true) ?_
                refine TS.s rfl rfl rfl (StepS.ld1 rfl e1 kscalB_3_true rfl (idxm hx43) rfl) ?_
                refine TS.s rfl rfl rfl (StepS.cmp rfl rfl rfl) ?_
                refine TS.code ?_
                refine TC.cond rfl (fun hc44 => ?_) (fun hc44 => ?_)
                · replace hb38 := cond_t hc44 hb38
                  refine TC.k ?_
                  refine TC.region ?_
                  refine TO.s rfl rfl rfl (StepS.assign rfl) ?_
                  refine TO.code ?_
                  cases hb38
                  refine TC.ret fun a w e s => ?_
                  refine FRet.mk1 (P := Try.prog) (fn := Try.f39) (t := 6) e rfl rfl ?_
                  exact ⟨rfl, s.mono fun _ => Sat.dropN 0⟩
                · replace hb38 := cond_f hc44 hb38
                  refine TC.skipk ?_
                  refine TC.region ?_
                  refine TO.s rfl rfl rfl (StepS.move rfl) ?_
                  refine TO.s rfl rfl rfl (StepS.ari rfl rfl rfl) ?_
                  refine TO.s rfl rfl rfl (StepS.assign rfl) ?_
                  cases hb38
                  refine TO.nil fun a w e s => ?_
                  exact ⟨e.sub (lk_of_allIn ⟨rfl, rfl, rfl, trivial⟩), s⟩
              · replace hb38 := cond_f hc39 hb38
                cases hb38
                refine TC.exit rfl fun a w e s => ?_
                exact ⟨e.sub (lk_of_allIn ⟨rfl, rfl, trivial⟩), s⟩
            · exact fun a w e s => ⟨e.sub (lk_of_allIn ⟨rfl, rfl, rfl, trivial⟩), s⟩
            · rintro _ rfl a w ⟨he, hs⟩
              dsimp only [Ctl.on] at hb32
              refine TC.use ?_ he hs
              refine TC.region ?_
              refine TO.s rfl rfl rfl (StepS.move rfl) ?_
              refine TO.s rfl rfl rfl (StepS.ari rfl rfl rfl) ?_
              refine TO.s rfl rfl rfl (StepS.assign rfl) ?_
              cases hb32
              refine TO.nil fun a w e s => ?_
              exact ⟨e.sub (lk_of_allIn ⟨rfl, rfl, trivial⟩), s⟩
            · rintro r rfl
              cases hb32
              exact fun a w h => h
          · replace hb32 := cond_f hc33 hb32
            cases hb32
            refine TC.exit rfl fun a w e s => ?_
            exact ⟨e.sub (lk_of_allIn trivial), s⟩
        · exact fun a w e s => ⟨e.sub (lk_of_allIn ⟨rfl, rfl, trivial⟩), s⟩
        · rintro _ rfl a w ⟨he, hs⟩
          dsimp only [Ctl.on] at hm
          refine TC.use ?_ he hs
          refine TC.k ?_
          refine TC.region ?_
          refine TO.s rfl rfl rfl (StepS.assign rfl) ?_
          refine TO.code ?_
          cases hm
          refine TC.ret fun a w e s => ?_
          refine FRet.mk1 (P := Try.prog) (fn := Try.f39) (t := 6) e rfl rfl ?_
          exact ⟨rfl, s.mono fun _ => Sat.dropN 0⟩
        · rintro r rfl
          cases hm
          exact fun a w h => h
      · rintro r rfl
        cases hm
        exact fun a w h => h
    · rintro r rfl
      cases hm
      exact fun a w h => h

set_option maxRecDepth 100000 in
theorem C23 {B : World} {L : List HP} {a0 : BitVec 32} {a1 : Int} {r0 : Bool} (hm : F23 a0 a1 = some r0) {w : World} (st : St B L w) : Calls Try.prog 23 #[U a0, I a1] w (fun e w' => (e = .returned (.bool r0) ∧ St B (L) w')) := by
  refine calls_of (N := 19) (L := L) (args := [U a0, I a1]) Try.func23 rfl rfl rfl ?_ st
  dsimp only [F23] at hm
  refine TC.k ?_
  refine TC.region ?_
  refine TO.s rfl rfl rfl (StepS.assign rfl) ?_
  refine TO.code ?_
  refine TC.k ?_
  refine TC.region ?_
  refine TO.s rfl rfl rfl (StepS.move rfl) ?_
  refine TO.s rfl rfl rfl (StepS.cmp rfl rfl rfl) ?_
  refine TO.s rfl rfl rfl (StepS.move rfl) ?_
  refine TO.mid1 3 10 (.bool ((decide (a1 ≥ 0)) && (decide (a1 < 32)))) ?_ ?_
  · refine bcase ((decide (a1 ≥ 0))) (fun hb1 => ?_) (fun hb1 => ?_)
    · refine TO.sw rfl rfl rfl hb1 rfl rfl (StepS.move rfl) ?_
      refine TO.sw rfl rfl rfl hb1 rfl rfl (StepS.cmp rfl rfl rfl) ?_
      refine TO.s rfl rfl rfl (StepS.pickT rfl hb1 rfl) ?_
      exact TO.up1 3 0 rfl rfl (by rw [hb1]; rfl) rfl
    · refine TO.skip rfl rfl rfl (skipF hb1) rfl rfl ?_
      refine TO.skip rfl rfl rfl (skipF hb1) rfl rfl ?_
      refine TO.s rfl rfl rfl (StepS.pickF rfl hb1 rfl) ?_
      exact TO.up1 3 0 rfl rfl (by rw [hb1]; rfl) rfl
  refine TO.s rfl rfl rfl (StepS.move rfl) ?_
  refine TO.mid1 7 18 (.bool (((decide (a1 ≥ 0)) && (decide (a1 < 32))) && ((a0 &&& ((1#32) <<< (u64 a1).toNat)) != (0#32)))) ?_ ?_
  · refine bcase (((decide (a1 ≥ 0)) && (decide (a1 < 32)))) (fun hb2 => ?_) (fun hb2 => ?_)
    · refine TO.sw rfl rfl rfl hb2 rfl rfl (StepS.move rfl) ?_
      refine TO.sw rfl rfl rfl hb2 rfl rfl (StepS.move rfl) ?_
      refine TO.sw rfl rfl rfl hb2 rfl rfl (StepS.cvIV kintB_3_i64_true kintB_42_u64_true rfl) ?_
      refine TO.sw rfl rfl rfl hb2 rfl rfl (StepS.shl (m := 1#32) rfl rfl (u64_nonneg _)) ?_
      refine TO.sw rfl rfl rfl hb2 rfl rfl (StepS.bitU rfl rfl rfl) ?_
      refine TO.sw rfl rfl rfl hb2 rfl rfl (StepS.cmpU (n := 0#32) rfl rfl rfl) ?_
      refine TO.s rfl rfl rfl (StepS.pickT rfl hb2 rfl) ?_
      exact TO.up1 7 0 rfl rfl (by rw [hb2]; rfl) rfl
    · refine TO.skip rfl rfl rfl (skipF hb2) rfl rfl ?_
      refine TO.skip rfl rfl rfl (skipF hb2) rfl rfl ?_
      refine TO.skip rfl rfl rfl (skipF hb2) rfl rfl ?_
      refine TO.skip rfl rfl rfl (skipF hb2) rfl rfl ?_
      refine TO.skip rfl rfl rfl (skipF hb2) rfl rfl ?_
      refine TO.skip rfl rfl rfl (skipF hb2) rfl rfl ?_
      refine TO.s rfl rfl rfl (StepS.pickF rfl hb2 rfl) ?_
      exact TO.up1 7 0 rfl rfl (by rw [hb2]; rfl) rfl
  refine TO.s rfl rfl rfl (StepS.assign rfl) ?_
  refine TO.code ?_
  cases hm
  refine TC.ret fun a w e s => ?_
  refine FRet.mk1 (P := Try.prog) (fn := Try.f23) (t := 4) e rfl rfl ?_
  exact ⟨rfl, s.mono fun _ => Sat.dropN 0⟩

set_option maxRecDepth 100000 in
theorem C62 {B : World} {L : List HP} {a0 : List Int} {a1 : Int} {h0 : Value} {r0 : Bool} (e0 : Ent L (Rd 1 h0 (a0.map cI))) (hm : F62 a0 a1 = some r0) {w : World} (st : St B L w) : Calls Try.prog 62 #[h0, I a1] w (fun e w' => (e = .returned (.bool r0) ∧ St B (L) w')) := by
  refine calls_of (N := 17) (L := L) (args := [h0, I a1]) Try.func62 rfl rfl rfl ?_ st
  dsimp only [F62] at hm
  refine TC.k ?_
  refine TC.region ?_
  refine TO.s rfl rfl rfl (StepS.assign rfl) ?_
  refine TO.code ?_
  refine TC.k ?_
  refine TC.k ?_
  refine TC.region ?_
  refine TO.s rfl rfl rfl (StepS.move rfl) ?_
  refine TO.s rfl rfl rfl (StepS.lenm rfl e0 ksliceB_22_3_1_true rfl) ?_
  refine TO.s rfl rfl rfl (StepS.move rfl) ?_
  refine TO.code ?_
  obtain ⟨o3, hw4, hm⟩ := bind_some hm
  refine TC.loop hw4 (fun x1 => fun a w => Mid 17 B [(1, I a1), (7, h0), (8, I (a0.length : Int)), (9, I x1)] (L) a w) (fun _ => fun a w => Mid 17 B [] (L) a w) (fun r0 => FRet Try.prog Try.f62 (fun e w' => (e = .returned (.bool r0) ∧ St B (L) w'))) ?_ ?_ ?_ ?_
  · rintro x1 o3r hb5 a w ⟨he, hs⟩
    dsimp only [F62_L0] at hb5
    refine TC.use ?_ he hs
    refine TC.k ?_
    refine TC.region ?_
    refine TO.s rfl rfl rfl (StepS.cmp rfl rfl rfl) ?_
    refine TO.code ?_
    refine TC.k ?_
    refine TC.cond rfl (fun hc6 => ?_) (fun hc6 => ?_)
    · replace hb5 := cond_t hc6 hb5
      refine TC.skipk ?_
      refine TC.k ?_
      refine TC.block ?_
      refine TC.k ?_
      refine TC.region ?_
      obtain ⟨x7, hx8, hb5⟩ := bind_some hb5
      refine TO.s rfl rfl rfl (StepS.idx rfl rfl e0 ksliceB_22_3_1_true (idx_spec hx8).1 (idxm_lt hx8)) ?_
      refine TO.s rfl rfl rfl (StepS.ld0 rfl e0 kscalB_3_true rfl (idxm hx8) rfl) ?_
      refine TO.s rfl rfl rfl (StepS.assign rfl) ?_
      refine TO.code ?_
      refine TC.k ?_
      refine TC.region ?_
      refine TO.s rfl rfl rfl (StepS.move rfl) ?_
      refine TO.s rfl rfl rfl (StepS.move rfl) ?_
      refine TO.s rfl rfl rfl (StepS.cmp rfl rfl rfl) ?_
      refine TO.code ?_
      refine TC.cond rfl (fun hc9 => ?_) (fun hc9 => ?_)
      · replace hb5 := cond_t hc9 hb5
        refine TC.k ?_
        refine TC.region ?_
        refine TO.s rfl rfl rfl (StepS.assign rfl) ?_
        refine TO.code ?_
        cases hb5
        refine TC.ret fun a w e s => ?_
        refine FRet.mk1 (P := Try.prog) (fn := Try.f62) (t := 4) e rfl rfl ?_
        exact ⟨rfl, s.mono fun _ => Sat.dropN 0⟩
      · replace hb5 := cond_f hc9 hb5
        refine TC.skipk ?_
        refine TC.region ?_
        refine TO.s rfl rfl rfl (StepS.ari rfl rfl rfl) ?_
        refine TO.s rfl rfl rfl (StepS.move rfl) ?_
        cases hb5
        refine TO.nil fun a w e s => ?_
        exact ⟨e.sub (lk_of_allIn ⟨rfl, rfl, rfl, rfl, trivial⟩), s⟩
    · replace hb5 := cond_f hc6 hb5
      cases hb5
      refine TC.exit rfl fun a w e s => ?_
      exact ⟨e.sub (lk_of_allIn trivial), s⟩
  · exact fun a w e s => ⟨e.sub (lk_of_allIn ⟨rfl, rfl, rfl, rfl, trivial⟩), s⟩
  · rintro _ rfl a w ⟨he, hs⟩
    dsimp only [Ctl.on] at hm
    refine TC.use ?_ he hs
    refine TC.k ?_
    refine TC.region ?_
    refine TO.s rfl rfl rfl (StepS.assign rfl) ?_
    refine TO.code ?_
    cases hm
    refine TC.ret fun a w e s => ?_
    refine FRet.mk1 (P := Try.prog) (fn := Try.f62) (t := 4) e rfl rfl ?_
    exact ⟨rfl, s.mono fun _ => Sat.dropN 0⟩
  · rintro r rfl
    cases hm
    exact fun a w h => h

set_option maxHeartbeats 4000000 in
set_option maxRecDepth 100000 in
theorem C40 {B : World} {L : List HP} {a0 : List Int} {a1 : List (Int × Int × BitVec 32)} {a2 : Int} {h0 : Value} {h1 : Value} {r0 : List Int} {r1 : BitVec 32} (e0 : Ent L (Rd 1 h0 (a0.map cI))) (e1 : Ent L (Rd 3 h1 (a1.map cTiiiu32))) (hm : F40 a0 a1 a2 = some (r0, r1)) {w : World} (st : St B L w) : Calls Try.prog 40 #[h0, h1, I a2] w (fun e w' => ∃ v M, e = .returned v ∧ (∃ (qv1 : Value), v = .tuple #[qv1, U r1] ∧ M = (OwnS 3 1 qv1 (r0.map cI) :: L)) ∧ St B M w') := by
  refine calls_of (N := 206) (L := L) (args := [h0, h1, I a2]) Try.func40 rfl rfl rfl ?_ st
  dsimp only [F40] at hm
  refine TC.k ?_
  refine TC.region ?_
  refine TO.s rfl rfl rfl (StepS.assign rfl) ?_
  refine TO.s rfl rfl rfl (StepS.assign rfl) ?_
  refine TO.code ?_
  refine TC.k ?_
  refine TC.region ?_
  refine TO.s rfl rfl rfl (StepS.move rfl) ?_
  refine TO.s rfl rfl rfl (StepS.lenm rfl e0 ksliceB_22_3_1_true rfl) ?_
  refine TO.s rfl rfl rfl (StepS.assign rfl) ?_
  refine TO.code ?_
  refine TC.k ?_
  refine TC.region ?_
  refine TO.s rfl rfl rfl (StepS.move rfl) ?_
  obtain ⟨y2, hk3, hm⟩ := bind_some hm
  refine TO.mkSS (ee := 3) (sz := 1) (f := cI) kelemB_79_22_1_24_true kinfo_22_bind_zero_some_slice_none_0_0 rfl rfl hk3 rfl fun v4 => ?_
  refine TO.s rfl rfl rfl (StepS.assign rfl) ?_
  refine TO.code ?_
  refine TC.k ?_
  refine TC.region ?_
  refine TO.s rfl rfl rfl (StepS.move rfl) ?_
  obtain ⟨y6, hk7, hm⟩ := bind_some hm
  refine TO.mkS (f := cI) (za := 0) kelemB_22_3_1_8_true kinfo_3_bind_zero_some_I_0 rfl (by decide) rfl rfl hk7 rfl fun v8 => ?_
  refine TO.s rfl rfl rfl (StepS.assign rfl) ?_
  refine TO.code ?_
  refine TC.k ?_
  refine TC.region ?_
  refine TO.s rfl rfl rfl (StepS.move rfl) ?_
  obtain ⟨y10, hk11, hm⟩ := bind_some hm
  refine TO.mkS (f := cU) (za := 0) kelemB_82_31_1_4_true kinfo_31_bind_zero_some_U_0 rfl (by decide) rfl rfl hk11 rfl fun v12 => ?_
  refine TO.s rfl rfl rfl (StepS.assign rfl) ?_
  refine TO.code ?_
  refine TC.k ?_
  refine TC.k ?_
  refine TC.region ?_
  refine TO.s rfl rfl rfl (StepS.move rfl) ?_
  refine TO.s rfl rfl rfl (StepS.lenm rfl e0.tl.tl.tl ksliceB_22_3_1_true rfl) ?_
  refine TO.s rfl rfl rfl (StepS.move rfl) ?_
  refine TO.code ?_
  obtain ⟨o22, hw23, hm⟩ := bind_some hm
  refine TC.loop hw23 (fun (y14, x16) => fun a w => ∃ hs15 : List Value, Mid 206 B [(1, h1), (2, I a2), (8, I (a0.length : Int)), (9, v4), (10, v8), (11, v12), (36, h0), (37, I (a0.length : Int)), (38, I x16)] (OwnS 31 1 v12 (y10.map cU) :: OwnS 3 1 v8 (y6.map cI) :: SS 22 3 1 cI v4 hs15 (y14) :: L) a w) (fun y20 => fun a w => ∃ hs21 : List Value, Mid 206 B [(1, h1), (2, I a2), (8, I (a0.length : Int)), (9, v4), (10, v8), (11, v12)] (OwnS 31 1 v12 (y10.map cU) :: OwnS 3 1 v8 (y6.map cI) :: SS 22 3 1 cI v4 hs21 (y20) :: L) a w) (fun (_ : Unit) _ _ => False) ?_ ?_ ?_ ?_
  · rintro ⟨y14, x16⟩ o22r hb24 a w ⟨hs15, he, hs⟩
    dsimp only [F40_L0] at hb24
    refine TC.use ?_ he hs
    refine TC.k ?_
    refine TC.region ?_
    refine TO.s rfl rfl rfl (StepS.cmp rfl rfl rfl) ?_
    refine TO.code ?_
    refine TC.k ?_
    refine TC.cond rfl (fun hc25 => ?_) (fun hc25 => ?_)
    · replace hb24 := cond_t hc25 hb24
      refine TC.skipk ?_
      refine TC.k ?_
      refine TC.block ?_
      refine TC.k ?_
      refine TC.region ?_
      refine TO.s rfl rfl rfl (StepS.move rfl) ?_
      obtain ⟨x26, hx27, hb24⟩ := bind_some hb24
      refine TO.s rfl rfl rfl (StepS.idx rfl rfl e0.tl.tl.tl ksliceB_22_3_1_true (idx_spec hx27).1 (idxm_lt hx27)) ?_
      refine TO.s rfl rfl rfl (StepS.ld0 rfl e0.tl.tl.tl kscalB_3_true rfl (idxm hx27) rfl) ?_
      refine TO.s rfl rfl rfl (StepS.assign rfl) ?_
      refine TO.s rfl rfl rfl (StepS.assign rfl) ?_
      refine TO.code ?_
      refine TC.region ?_
      refine TO.s rfl rfl rfl (StepS.move rfl) ?_
      refine TO.s rfl rfl rfl (StepS.move rfl) ?_
      refine TO.s rfl rfl rfl (StepS.move rfl) ?_
      refine TO.litS (f := cI) ([x26] : List Int) kelemB_22_3_1_8_true kinfo_3_bind_zero_some_I_0 rfl rfl (fun _ => rfl) rfl rfl (by kernel_rfl) rfl fun v28 => ?_
      obtain ⟨x30, hx31, hb24⟩ := bind_some hb24
      refine TO.s rfl rfl rfl (StepS.idxRR rfl rfl (SS.rr (Ent.at 3 rfl)) ksliceB_79_22_1_true hx31) ?_
      refine TO.ghost (fun _ s => Sat.front 3 rfl s) ?_
      refine TO.stRow (xs := ([x26] : List Int)) rfl rfl hx31 ksizeB_22_1_true ?_
      refine TO.code ?_
      refine TC.region ?_
      refine TO.s rfl rfl rfl (StepS.ari rfl rfl rfl) ?_
      refine TO.s rfl rfl rfl (StepS.move rfl) ?_
      cases hb24
      refine TO.nil fun a w e s => ?_
      exact ⟨(hs15.set x16.toNat v28), e.sub (lk_of_allIn ⟨rfl, rfl, rfl, rfl, rfl, rfl, rfl, rfl, rfl, trivial⟩), s.mono fun _ s => (by replace s := Sat.front 0 rfl s; replace s := Sat.front 2 rfl s; replace s := Sat.front 2 rfl s; exact s)⟩
    · replace hb24 := cond_f hc25 hb24
      cases hb24
      refine TC.exit rfl fun a w e s => ?_
      exact ⟨hs15, e.sub (lk_of_allIn ⟨rfl, rfl, rfl, rfl, rfl, rfl, trivial⟩), s⟩
  · exact fun a w e s => ⟨(y2.map fun _ => nilv), e.sub (lk_of_allIn ⟨rfl, rfl, rfl, rfl, rfl, rfl, rfl, rfl, rfl, trivial⟩), s⟩
  · rintro y20 rfl a w ⟨hs21, he, hs⟩
    dsimp only [Ctl.on] at hm
    refine TC.use ?_ he hs
    refine TC.k ?_
    refine TC.k ?_
    refine TC.region ?_
    refine TO.s rfl rfl rfl (StepS.move rfl) ?_
    refine TO.s rfl rfl rfl (StepS.lenm rfl e1.tl.tl.tl ksliceB_63_100_3_true rfl) ?_
    refine TO.s rfl rfl rfl (StepS.move rfl) ?_
    refine TO.code ?_
    obtain ⟨o40, hw41, hm⟩ := bind_some hm
    refine TC.loop hw41 (fun (y32, y33, x34) => fun a w => Mid 206 B [(2, I a2), (8, I (a0.length : Int)), (9, v4), (10, v8), (11, v12), (49, h1), (50, I (a1.length : Int)), (51, I x34)] (OwnS 31 1 v12 (y32.map cU) :: OwnS 3 1 v8 (y33.map cI) :: SS 22 3 1 cI v4 hs21 (y20) :: L) a w) (fun (y38, y39) => fun a w => Mid 206 B [(2, I a2), (8, I (a0.length : Int)), (9, v4), (10, v8), (11, v12)] (OwnS 31 1 v12 (y38.map cU) :: OwnS 3 1 v8 (y39.map cI) :: SS 22 3 1 cI v4 hs21 (y20) :: L) a w) (fun (_ : Unit) _ _ => False) ?_ ?_ ?_ ?_
    · rintro ⟨y32, y33, x34⟩ o40r hb42 a w ⟨he, hs⟩
      dsimp only [F40_L1] at hb42
      refine TC.use ?_ he hs
      refine TC.k ?_
      refine TC.region ?_
      refine TO.s rfl rfl rfl (StepS.cmp rfl rfl rfl) ?_
      refine TO.code ?_
      refine TC.k ?_
      refine TC.cond rfl (fun hc43 => ?_) (fun hc43 => ?_)
      · replace hb42 := cond_t hc43 hb42
        refine TC.skipk ?_
        refine TC.k ?_
        refine TC.block ?_
        refine TC.k ?_
        refine TC.region ?_
        obtain ⟨x44, hx45, hb42⟩ := bind_some hb42
        refine TO.s rfl rfl rfl (StepS.idx rfl rfl e1.tl.tl.tl ksliceB_63_100_3_true (idx_spec hx45).1 (idxm_lt hx45)) ?_
        refine TO.s rfl rfl rfl (StepS.ldE rfl e1.tl.tl.tl kaggB_100_3_true rfl (idxm hx45)) ?_
        refine TO.alloc kinfo_100_bind_zero_some_agg_I_0_I_0_U_0 rfl rfl fun b46 => ?_
        refine TO.stB (us := [I x44.1, I x44.2.1, U x44.2.2]) 0 [I x44.1, I x44.2.1, U x44.2.2] rfl rfl rfl ksizeB_100_3_true rfl rfl rfl (by simp [Value.oneCell']) rfl ?_
        refine TO.code ?_
        refine TC.k ?_
        refine TC.region ?_
        refine TO.s rfl rfl rfl (StepS.move rfl) ?_
        refine TO.s rfl rfl rfl (StepS.fld rfl kfieldB_100_0_0_true) ?_
        refine TO.s rfl rfl rfl (StepS.ldB rfl (Ent.at 0 rfl) kscalB_3_true rfl) ?_
        refine TO.s rfl rfl rfl (StepS.fld rfl kfieldB_100_1_1_true) ?_
        refine TO.s rfl rfl rfl (StepS.ldB rfl (Ent.at 0 rfl) kscalB_3_true rfl) ?_
        obtain ⟨x47, hx48, hb42⟩ := bind_some hb42
        refine TO.s rfl rfl rfl (StepS.idx rfl rfl (OwnS.rd (Ent.at 2 rfl)) ksliceB_22_3_1_true (idx_spec hx48).1 (idxm_lt hx48)) ?_
        refine TO.stO (i := x44.1.toNat) (off := 0) (us := [I x44.2.1]) 2 x44.2.1 rfl rfl rfl ksizeB_3_1_true rfl rfl rfl (idx_spec hx48).2 rfl (by simp [Value.oneCell']) rfl ?_
        refine TO.code ?_
        refine TC.region ?_
        refine TO.s rfl rfl rfl (StepS.move rfl) ?_
        refine TO.s rfl rfl rfl (StepS.fld rfl kfieldB_100_0_0_true) ?_
        refine TO.s rfl rfl rfl (StepS.ldB rfl (Ent.at 0 rfl) kscalB_3_true rfl) ?_
        refine TO.s rfl rfl rfl (StepS.fld rfl kfieldB_100_2_2_true) ?_
        refine TO.s rfl rfl rfl (StepS.ldB rfl (Ent.at 0 rfl) kscalB_31_true rfl) ?_
        obtain ⟨x49, hx50, hb42⟩ := bind_some hb42
        refine TO.s rfl rfl rfl (StepS.idx rfl rfl (OwnS.rd (Ent.at 1 rfl)) ksliceB_82_31_1_true (idx_spec hx50).1 (idxm_lt hx50)) ?_
        refine TO.stO (i := x44.1.toNat) (off := 0) (us := [U x44.2.2]) 1 x44.2.2 rfl rfl rfl ksizeB_31_1_true rfl rfl rfl (idx_spec hx50).2 rfl (by simp [Value.oneCell']) rfl ?_
        refine TO.code ?_
        refine TC.region ?_
        refine TO.s rfl rfl rfl (StepS.ari rfl rfl rfl) ?_
        refine TO.s rfl rfl rfl (StepS.move rfl) ?_
        cases hb42
        refine TO.nil fun a w e s => ?_
        exact ⟨e.sub (lk_of_allIn ⟨rfl, rfl, rfl, rfl, rfl, rfl, rfl, rfl, trivial⟩), s.mono fun _ => Sat.dropN 1⟩
      · replace hb42 := cond_f hc43 hb42
        cases hb42
        refine TC.exit rfl fun a w e s => ?_
        exact ⟨e.sub (lk_of_allIn ⟨rfl, rfl, rfl, rfl, rfl, trivial⟩), s⟩
    · exact fun a w e s => ⟨e.sub (lk_of_allIn ⟨rfl, rfl, rfl, rfl, rfl, rfl, rfl, rfl, trivial⟩), s⟩
    · rintro ⟨y38, y39⟩ rfl a w ⟨he, hs⟩
      dsimp only [Ctl.on] at hm
      refine TC.use ?_ he hs
      refine TC.k ?_
      refine TC.k ?_
      refine TC.region ?_
      refine TO.s rfl rfl rfl (StepS.assign rfl) ?_
      refine TO.code ?_
      obtain ⟨o65, hw66, hm⟩ := bind_some hm
      refine TC.loop hw66 (fun (y54, x55) => fun a w => ∃ v51 : Value, ∃ hs52 : List Value, Mid 206 B [(2, I a2), (8, I (a0.length : Int)), (9, v51), (10, v8), (11, v12), (16, I x55)] (SS 22 3 1 cI v51 hs52 (y54) :: OwnS 31 1 v12 (y38.map cU) :: OwnS 3 1 v8 (y39.map cI) :: L) a w) (fun y64 => fun a w => ∃ v61 : Value, ∃ hs62 : List Value, Mid 206 B [(8, I (a0.length : Int)), (9, v61), (10, v8)] (SS 22 3 1 cI v61 hs62 (y64) :: OwnS 31 1 v12 (y38.map cU) :: OwnS 3 1 v8 (y39.map cI) :: L) a w) (fun (_ : Unit) _ _ => False) ?_ ?_ ?_ ?_
      · rintro ⟨y54, x55⟩ o65r hb67 a w ⟨v51, hs52, he, hs⟩
        dsimp only [F40_L2] at hb67
        refine TC.use ?_ he hs
        refine TC.k ?_
        refine TC.k ?_
        refine TC.region ?_
        refine TO.s rfl rfl rfl (StepS.move rfl) ?_
        refine TO.s rfl rfl rfl (StepS.move rfl) ?_
        refine TO.s rfl rfl rfl (StepS.cmp rfl rfl rfl) ?_
        refine TO.code ?_
        refine TC.cond rfl (fun hc68 => ?_) (fun hc68 => ?_)
        · replace hb67 := cond_t hc68 hb67
          refine TC.skipk ?_
          refine TC.k ?_
          refine TC.block ?_
          refine TC.k ?_
          refine TC.region ?_
          refine TO.s rfl rfl rfl (StepS.move rfl) ?_
          obtain ⟨y69, hk70, hb67⟩ := bind_some hb67
          refine TO.mkSS (ee := 3) (sz := 1) (f := cI) kelemB_79_22_1_24_true kinfo_22_bind_zero_some_slice_none_0_0 rfl rfl hk70 rfl fun v71 => ?_
          refine TO.s rfl rfl rfl (StepS.assign rfl) ?_
          refine TO.code ?_
          refine TC.k ?_
          refine TC.k ?_
          refine TC.region ?_
          refine TO.s rfl rfl rfl (StepS.assign rfl) ?_
          refine TO.code ?_
          obtain ⟨o81, hw82, hb67⟩ := bind_some hb67
          refine TC.loop hw82 (fun (y73, x75) => fun a w => ∃ hs74 : List Value, Mid 206 B [(2, I a2), (8, I (a0.length : Int)), (9, v51), (10, v8), (11, v12), (16, I x55), (17, v71), (18, I x75)] (SS 22 3 1 cI v71 hs74 (y73) :: SS 22 3 1 cI v51 hs52 (y54) :: OwnS 31 1 v12 (y38.map cU) :: OwnS 3 1 v8 (y39.map cI) :: L) a w) (fun y79 => fun a w => ∃ hs80 : List Value, Mid 206 B [(2, I a2), (8, I (a0.length : Int)), (10, v8), (11, v12), (16, I x55), (17, v71)] (SS 22 3 1 cI v71 hs80 (y79) :: SS 22 3 1 cI v51 hs52 (y54) :: OwnS 31 1 v12 (y38.map cU) :: OwnS 3 1 v8 (y39.map cI) :: L) a w) (fun (_ : Unit) _ _ => False) ?_ ?_ ?_ ?_
          · rintro ⟨y73, x75⟩ o81r hb83 a w ⟨hs74, he, hs⟩
            dsimp only [F40_L3] at hb83
            refine TC.use ?_ he hs
            refine TC.k ?_
            refine TC.k ?_
            refine TC.region ?_
            refine TO.s rfl rfl rfl (StepS.move rfl) ?_
            refine TO.s rfl rfl rfl (StepS.move rfl) ?_
            refine TO.s rfl rfl rfl (StepS.cmp rfl rfl rfl) ?_
            refine TO.code ?_
            refine TC.cond rfl (fun hc84 => ?_) (fun hc84 => ?_)
            · replace hb83 := cond_t hc84 hb83
              refine TC.skipk ?_
              refine TC.k ?_
              refine TC.block ?_
              refine TC.k ?_
              refine TC.region ?_
              refine TO.s rfl rfl rfl (StepS.move rfl) ?_
              refine TO.s rfl rfl rfl (StepS.move rfl) ?_
              refine TO.lit0 (f := cI) ksliceB_22_3_1_true rfl fun v85 => ?_
              refine TO.s rfl rfl rfl (StepS.move rfl) ?_
              refine TO.s rfl rfl rfl (StepS.move rfl) ?_
              obtain ⟨x87, hx88, hb83⟩ := bind_some hb83
              refine TO.s rfl rfl rfl (StepS.idxRR rfl rfl (SS.rr (Ent.at 2 rfl)) ksliceB_79_22_1_true hx88) ?_
              refine TO.s rfl rfl rfl (StepS.ldRR rfl (SS.rr (Ent.at 2 rfl)) kscalB_22_true hx88) ?_
              obtain ⟨y90, hk91, hb83⟩ := bind_some hb83
              refine TO.app (k := 0) (f := cI) kelemB_22_3_1_8_true (by decide) rfl rfl rfl (RR.row (SS.rr (Ent.at 2 rfl)) hx88) hk91 (fun x c hc => by simp [Value.oneCell'] at hc ⊢; first | (obtain rfl := hc; rfl) | (rcases hc with rfl <;> rfl)) rfl rfl fun v92 => ?_
              obtain ⟨x93, hx94, hb83⟩ := bind_some hb83
              refine TO.s rfl rfl rfl (StepS.idxRR rfl rfl (SS.rr (Ent.at 1 rfl)) ksliceB_79_22_1_true hx94) ?_
              refine TO.ghost (fun _ s => Sat.front 1 rfl s) ?_
              refine TO.stRow (xs := y90) rfl rfl hx94 ksizeB_22_1_true ?_
              refine TO.code ?_
              refine TC.k ?_
              refine TC.k ?_
              refine TC.region ?_
              refine TO.s rfl rfl rfl (StepS.assign rfl) ?_
              refine TO.code ?_
              obtain ⟨o103, hw104, hb83⟩ := bind_some hb83
              refine TC.loop hw104 (fun (y95, x97) => fun a w => ∃ hs96 : List Value, Mid 206 B [(2, I a2), (8, I (a0.length : Int)), (9, v51), (10, v8), (11, v12), (16, I x55), (17, v71), (18, I x75), (19, I x97)] (SS 22 3 1 cI v71 hs96 (y95) :: SS 22 3 1 cI v51 hs52 (y54) :: OwnS 31 1 v12 (y38.map cU) :: OwnS 3 1 v8 (y39.map cI) :: L) a w) (fun y101 => fun a w => ∃ hs102 : List Value, Mid 206 B [(2, I a2), (8, I (a0.length : Int)), (9, v51), (10, v8), (11, v12), (16, I x55), (17, v71), (18, I x75)] (SS 22 3 1 cI v71 hs102 (y101) :: SS 22 3 1 cI v51 hs52 (y54) :: OwnS 31 1 v12 (y38.map cU) :: OwnS 3 1 v8 (y39.map cI) :: L) a w) (fun (_ : Unit) _ _ => False) ?_ ?_ ?_ ?_
              · rintro ⟨y95, x97⟩ o103r hb105 a w ⟨hs96, he, hs⟩
                dsimp only [F40_L4] at hb105
                refine TC.use ?_ he hs
                refine TC.k ?_
                refine TC.k ?_
                refine TC.region ?_
                refine TO.s rfl rfl rfl (StepS.move rfl) ?_
                refine TO.s rfl rfl rfl (StepS.move rfl) ?_
                refine TO.s rfl rfl rfl (StepS.cmp rfl rfl rfl) ?_
                refine TO.code ?_
                refine TC.cond rfl (fun hc106 => ?_) (fun hc106 => ?_)
                · replace hb105 := cond_t hc106 hb105
                  refine TC.skipk ?_
                  refine TC.k ?_
                  obtain ⟨y107, hj109, hb105⟩ := bind_some hb105
                  first | refine TC.cutM (fun a w => ∃ hs108 : List Value, Mid 206 B [(2, I a2), (8, I (a0.length : Int)), (9, v51), (10, v8), (11, v12), (16, I x55), (17, v71), (18, I x75), (19, I x97)] (SS 22 3 1 cI v71 hs108 (y107) :: SS 22 3 1 cI v51 hs52 (y54) :: OwnS 31 1 v12 (y38.map cU) :: OwnS 3 1 v8 (y39.map cI) :: L) a w) ?_ ?_ | refine TC.cutX (fun a w => ∃ hs108 : List Value, Mid 206 B [(2, I a2), (8, I (a0.length : Int)), (9, v51), (10, v8), (11, v12), (16, I x55), (17, v71), (18, I x75), (19, I x97)] (SS 22 3 1 cI v71 hs108 (y107) :: SS 22 3 1 cI v51 hs52 (y54) :: OwnS 31 1 v12 (y38.map cU) :: OwnS 3 1 v8 (y39.map cI) :: L) a w) ?_ ?_
                  · refine TC.block ?_
                    refine TC.k ?_
                    refine TC.region ?_
                    refine TO.s rfl rfl rfl (StepS.move rfl) ?_
                    refine TO.s rfl rfl rfl (StepS.move rfl) ?_
                    obtain ⟨x110, hx111, hj109⟩ := bind_some hj109
                    refine TO.s rfl rfl rfl (StepS.idx rfl rfl (OwnS.rd (Ent.at 3 rfl)) ksliceB_22_3_1_true (idx_spec hx111).1 (idxm_lt hx111)) ?_
                    refine TO.s rfl rfl rfl (StepS.ld0 rfl (OwnS.rd (Ent.at 3 rfl)) kscalB_3_true rfl (idxm hx111) rfl) ?_
                    refine TO.s rfl rfl rfl (StepS.cmp rfl rfl rfl) ?_
                    refine TO.s rfl rfl rfl (StepS.move rfl) ?_
                    obtain ⟨b113, hj114, hj109⟩ := bind_some hj109
                    refine TO.mid1 7 106 (.bool b113) ?_ ?_
                    · refine bcase ((x110 == 0)) (fun hb112 => ?_) (fun hb112 => ?_)
                      · replace hj114 := cond_t hb112 hj114
                        cases hj114
                        refine TO.skip rfl rfl rfl (skipT hb112) rfl rfl ?_
                        refine TO.skip rfl rfl rfl (skipT hb112) rfl rfl ?_
                        refine TO.skip rfl rfl rfl (skipT hb112) rfl rfl ?_
                        refine TO.skip rfl rfl rfl (skipT hb112) rfl rfl ?_
                        refine TO.skip rfl rfl rfl (skipT hb112) rfl rfl ?_
                        refine TO.skip rfl rfl rfl (skipT hb112) rfl rfl ?_
                        refine TO.s rfl rfl rfl (StepS.pickT rfl hb112 rfl) ?_
                        exact TO.up1 7 0 rfl rfl rfl rfl
                      · replace hj114 := cond_f hb112 hj114
                        refine TO.sw rfl rfl rfl hb112 rfl rfl (StepS.move rfl) ?_
                        refine TO.sw rfl rfl rfl hb112 rfl rfl (StepS.move rfl) ?_
                        obtain ⟨x115, hx116, hj114⟩ := bind_some hj114
                        refine TO.sw rfl rfl rfl hb112 rfl rfl (StepS.idx rfl rfl (OwnS.rd (Ent.at 3 rfl)) ksliceB_22_3_1_true (idx_spec hx116).1 (idxm_lt hx116)) ?_
                        refine TO.sw rfl rfl rfl hb112 rfl rfl (StepS.ld0 rfl (OwnS.rd (Ent.at 3 rfl)) kscalB_3_true rfl (idxm hx116) rfl) ?_
                        refine TO.sw rfl rfl rfl hb112 rfl rfl (StepS.move rfl) ?_
                        refine TO.sw rfl rfl rfl hb112 rfl rfl (StepS.cmp rfl rfl rfl) ?_
                        cases hj114
                        refine TO.s rfl rfl rfl (StepS.pickF rfl hb112 rfl) ?_
                        exact TO.up1 7 0 rfl rfl rfl rfl
                    refine TO.s rfl rfl rfl (StepS.move rfl) ?_
                    obtain ⟨b118, hj119, hj109⟩ := bind_some hj109
                    refine TO.mid1 15 122 (.bool b118) ?_ ?_
                    · refine bcase (b113) (fun hb117 => ?_) (fun hb117 => ?_)
                      · replace hj119 := cond_t hb117 hj119
                        cases hj119
                        refine TO.skip rfl rfl rfl (skipT hb117) rfl rfl ?_
                        refine TO.skip rfl rfl rfl (skipT hb117) rfl rfl ?_
                        refine TO.skip rfl rfl rfl (skipT hb117) rfl rfl ?_
                        refine TO.skip rfl rfl rfl (skipT hb117) rfl rfl ?_
                        refine TO.skip rfl rfl rfl (skipT hb117) rfl rfl ?_
                        refine TO.skip rfl rfl rfl (skipT hb117) rfl rfl ?_
                        refine TO.skip rfl rfl rfl (skipT hb117) rfl rfl ?_
                        refine TO.skip rfl rfl rfl skipU rfl rfl ?_
                        refine TO.skip rfl rfl rfl skipU rfl rfl ?_
                        refine TO.skip rfl rfl rfl skipU rfl rfl ?_
                        refine TO.skip rfl rfl rfl skipU rfl rfl ?_
                        refine TO.skip rfl rfl rfl skipU rfl rfl ?_
                        refine TO.skip rfl rfl rfl skipU rfl rfl ?_
                        refine TO.skip rfl rfl rfl (skipT hb117) rfl rfl ?_
                        refine TO.s rfl rfl rfl (StepS.pickT rfl hb117 rfl) ?_
                        exact TO.up1 15 0 rfl rfl rfl rfl
                      · replace hj119 := cond_f hb117 hj119
                        refine TO.sw rfl rfl rfl hb117 rfl rfl (StepS.move rfl) ?_
                        refine TO.sw rfl rfl rfl hb117 rfl rfl (StepS.move rfl) ?_
                        obtain ⟨x120, hx121, hj119⟩ := bind_some hj119
                        refine TO.sw rfl rfl rfl hb117 rfl rfl (StepS.idx rfl rfl (OwnS.rd (Ent.at 3 rfl)) ksliceB_22_3_1_true (idx_spec hx121).1 (idxm_lt hx121)) ?_
                        refine TO.sw rfl rfl rfl hb117 rfl rfl (StepS.ld0 rfl (OwnS.rd (Ent.at 3 rfl)) kscalB_3_true rfl (idxm hx121) rfl) ?_
                        refine TO.sw rfl rfl rfl hb117 rfl rfl (StepS.move rfl) ?_
                        refine TO.sw rfl rfl rfl hb117 rfl rfl (StepS.cmp rfl rfl rfl) ?_
                        refine TO.sw rfl rfl rfl hb117 rfl rfl (StepS.move rfl) ?_
                        obtain ⟨b123, hj124, hj119⟩ := bind_some hj119
                        refine TO.mid1 7 121 (.bool b123) ?_ ?_
                        · refine bcase ((x120 == x55)) (fun hb122 => ?_) (fun hb122 => ?_)
                          · replace hj124 := cond_t hb122 hj124
                            refine TO.sw rfl rfl rfl hb122 rfl rfl (StepS.move rfl) ?_
                            refine TO.sw rfl rfl rfl hb122 rfl rfl (StepS.move rfl) ?_
                            obtain ⟨x125, hx126, hj124⟩ := bind_some hj124
                            refine TO.sw rfl rfl rfl hb122 rfl rfl (StepS.idx rfl rfl (OwnS.rd (Ent.at 2 rfl)) ksliceB_82_31_1_true (idx_spec hx126).1 (idxm_lt hx126)) ?_
                            refine TO.sw rfl rfl rfl hb122 rfl rfl (StepS.ld0 rfl (OwnS.rd (Ent.at 2 rfl)) kscalB_31_true rfl (idxm hx126) rfl) ?_
                            refine TO.sw rfl rfl rfl hb122 rfl rfl (StepS.move rfl) ?_
                            obtain ⟨r127, hc128, hj124⟩ := bind_some hj124
                            refine TO.qw rfl rfl rfl hb122 rfl rfl (StepQ.call kcallB_23_true rfl rfl (fun _ st => C23  hc128 st)) ?_
                            cases hj124
                            refine TO.sw rfl rfl rfl hb117 rfl rfl (StepS.pickT rfl hb122 rfl) ?_
                            exact TO.up1 7 0 rfl rfl rfl rfl
                          · replace hj124 := cond_f hb122 hj124
                            cases hj124
                            refine TO.skip rfl rfl rfl (skipF hb122) rfl rfl ?_
                            refine TO.skip rfl rfl rfl (skipF hb122) rfl rfl ?_
                            refine TO.skip rfl rfl rfl (skipF hb122) rfl rfl ?_
                            refine TO.skip rfl rfl rfl (skipF hb122) rfl rfl ?_
                            refine TO.skip rfl rfl rfl (skipF hb122) rfl rfl ?_
                            refine TO.skip rfl rfl rfl (skipF hb122) rfl rfl ?_
                            refine TO.sw rfl rfl rfl hb117 rfl rfl (StepS.pickF rfl hb122 rfl) ?_
                            exact TO.up1 7 0 rfl rfl rfl rfl
                        cases hj119
                        refine TO.s rfl rfl rfl (StepS.pickF rfl hb117 rfl) ?_
                        exact TO.up1 9 0 rfl rfl rfl rfl
                    refine TO.code ?_
                    refine TC.cond rfl (fun hc129 => ?_) (fun hc129 => ?_)
                    · replace hj109 := cond_t hc129 hj109
                      refine TC.region_any (SS 22 3 1 cI v51 hs52 (y54) :: OwnS 31 1 v12 (y38.map cU) :: OwnS 3 1 v8 (y39.map cI) :: L) 12 13 kfollows_mixedOrders_true rfl ?_
                      refine TA.takeW 0 rfl rfl rfl rfl (StepS.move rfl) (by kernel_rfl) (by kernel_rfl) (by kernel_rfl) rfl (.inr (fun _ s => by replace s := Sat.front 3 rfl s; replace s := Sat.front 3 rfl s; replace s := Sat.front 3 rfl s; replace s := Sat.erase 3 s; exact s)) ?_
                      refine TA.takeW 1 rfl rfl rfl rfl (StepS.move rfl) (by kernel_rfl) (by kernel_rfl) (by kernel_rfl) rfl (.inr (fun _ s => by replace s := Sat.front 3 rfl s; replace s := Sat.front 3 rfl s; replace s := Sat.front 3 rfl s; replace s := Sat.erase 3 s; exact s)) ?_
                      refine TA.takeW 2 rfl rfl rfl rfl (StepS.move rfl) (by kernel_rfl) (by kernel_rfl) (by kernel_rfl) rfl (.inr (fun _ s => by replace s := Sat.front 3 rfl s; replace s := Sat.front 3 rfl s; replace s := Sat.front 3 rfl s; replace s := Sat.erase 3 s; exact s)) ?_
                      refine TA.takeW 3 rfl rfl rfl rfl (StepS.move rfl) (by kernel_rfl) (by kernel_rfl) (by kernel_rfl) rfl (.inr (fun _ s => by replace s := Sat.front 3 rfl s; replace s := Sat.front 3 rfl s; replace s := Sat.front 3 rfl s; replace s := Sat.erase 3 s; exact s)) ?_
                      refine TA.takeW 6 rfl rfl rfl rfl (StepS.move rfl) (by kernel_rfl) (by kernel_rfl) (by kernel_rfl) rfl (.inr (fun _ s => by replace s := Sat.front 3 rfl s; replace s := Sat.front 3 rfl s; replace s := Sat.front 3 rfl s; replace s := Sat.erase 3 s; exact s)) ?_
                      refine TA.takeW 7 rfl rfl rfl rfl (StepS.move rfl) (by kernel_rfl) (by kernel_rfl) (by kernel_rfl) rfl (.inr (fun _ s => by replace s := Sat.front 3 rfl s; replace s := Sat.front 3 rfl s; replace s := Sat.front 3 rfl s; replace s := Sat.erase 3 s; exact s)) ?_
                      obtain ⟨xq130_8_1, hxq130_8_2, hj109⟩ := bind_some hj109
                      refine TA.take 8 rfl rfl rfl rfl (StepS.idxRR rfl rfl (SS.rr (Ent.at 0 rfl)) ksliceB_79_22_1_true hxq130_8_2) (by kernel_rfl) (by kernel_rfl) (by kernel_rfl) (by kernel_rfl) (by kernel_rfl) (fun _ s => by replace s := Sat.front 3 rfl s; replace s := Sat.front 3 rfl s; replace s := Sat.front 3 rfl s; replace s := Sat.erase 3 s; exact s) ?_
                      refine TA.take 9 rfl rfl rfl rfl (StepS.ldRR rfl (SS.rr (Ent.at 0 rfl)) kscalB_22_true hxq130_8_2) (by kernel_rfl) (by kernel_rfl) (by kernel_rfl) (by kernel_rfl) (by kernel_rfl) (fun _ s => by replace s := Sat.front 3 rfl s; replace s := Sat.front 3 rfl s; replace s := Sat.front 3 rfl s; replace s := Sat.erase 3 s; exact s) ?_
                      refine TA.all1 (i := 4) (by kernel_rfl) ?_
                      refine TB.of rfl ?_
                      obtain ⟨xq130_4_1, hxq130_4_2, hj109⟩ := bind_some hj109
                      refine TO.s rfl rfl rfl (StepS.idxRR rfl rfl (SS.rr (Ent.at 0 rfl)) ksliceB_79_22_1_true hxq130_4_2) ?_
                      refine TA.back (.inr (fun _ s => by replace s := Sat.front 3 rfl s; replace s := Sat.front 3 rfl s; replace s := Sat.front 3 rfl s; replace s := Sat.erase 3 s; exact s)) ?_
                      refine TA.all1 (i := 5) (by kernel_rfl) ?_
                      refine TB.of rfl ?_
                      refine TO.s rfl rfl rfl (StepS.ldRR rfl (SS.rr (Ent.at 0 rfl)) kscalB_22_true hxq130_4_2) ?_
                      refine TA.back (.inr (fun _ s => by replace s := Sat.front 3 rfl s; replace s := Sat.front 3 rfl s; replace s := Sat.front 3 rfl s; replace s := Sat.erase 3 s; exact s)) ?_
                      refine TA.all1 (i := 10) (by kernel_rfl) ?_
                      refine TB.of rfl ?_
                      refine TO.ghost (fun _ s => Sat.openRow hxq130_4_2 s) ?_
                      obtain ⟨yq130_10_2, hkq130_10_3, hj109⟩ := bind_some hj109
                      refine TO.app (k := 0) (f := cI) kelemB_22_3_1_8_true (by decide) rfl rfl rfl (RR.row (SS.rr (Ent.at 2 rfl)) hxq130_8_2) hkq130_10_3 (fun x c hc => by simp [Value.oneCell'] at hc ⊢; first | (obtain rfl := hc; rfl) | (rcases hc with rfl <;> rfl)) rfl rfl fun vq130_10_4 => ?_
                      refine TA.back (.inr (fun _ s => by replace s := Sat.front 4 rfl s; replace s := Sat.front 4 rfl s; replace s := Sat.front 4 rfl s; replace s := Sat.erase 3 s; replace s := Sat.erase 3 s; exact s)) ?_
                      refine TA.all1 (i := 11) (by kernel_rfl) ?_
                      refine TB.of rfl ?_
                      obtain ⟨xq130_11_1, hxq130_11_2, hj109⟩ := bind_some hj109
                      refine TO.s rfl rfl rfl (StepS.idxRH rfl rfl (Ent.at 1 rfl) ksliceB_79_22_1_true hxq130_11_2) ?_
                      refine TA.back (.inr (fun _ s => by replace s := Sat.front 4 rfl s; replace s := Sat.front 4 rfl s; replace s := Sat.front 4 rfl s; replace s := Sat.erase 3 s; replace s := Sat.erase 3 s; exact s)) ?_
                      refine TA.all1 (i := 12) (by kernel_rfl) ?_
                      refine TB.of rfl ?_
                      refine TO.ghost (fun _ s => Sat.front 1 rfl s) ?_
                      refine TO.stRowH (xs := yq130_10_2) rfl rfl hxq130_11_2 ksizeB_22_1_true ?_
                      refine TA.back (.inl (by kernel_rfl)) ?_
                      cases hj109
                      refine TA.nil (by kernel_rfl) fun a w e s => ?_
                      exact ⟨(hs96.set x75.toNat vq130_10_4), e.sub (lk_of_allIn ⟨rfl, rfl, rfl, rfl, rfl, rfl, rfl, rfl, rfl, trivial⟩), s⟩
                    · replace hj109 := cond_f hc129 hj109
                      cases hj109
                      refine TC.skip fun a w e s => ?_
                      exact ⟨hs96, e.sub (lk_of_allIn ⟨rfl, rfl, rfl, rfl, rfl, rfl, rfl, rfl, rfl, trivial⟩), s⟩
                  · intro a w ⟨hs108, he, hs⟩
                    refine TC.use ?_ he hs
                    refine TC.region ?_
                    refine TO.s rfl rfl rfl (StepS.move rfl) ?_
                    refine TO.s rfl rfl rfl (StepS.ari rfl rfl rfl) ?_
                    refine TO.s rfl rfl rfl (StepS.assign rfl) ?_
                    cases hb105
                    refine TO.nil fun a w e s => ?_
                    exact ⟨hs108, e.sub (lk_of_allIn ⟨rfl, rfl, rfl, rfl, rfl, rfl, rfl, rfl, rfl, trivial⟩), s⟩
                · replace hb105 := cond_f hc106 hb105
                  cases hb105
                  refine TC.exit rfl fun a w e s => ?_
                  exact ⟨hs96, e.sub (lk_of_allIn ⟨rfl, rfl, rfl, rfl, rfl, rfl, rfl, rfl, trivial⟩), s⟩
              · exact fun a w e s => ⟨(hs74.set x75.toNat v92), e.sub (lk_of_allIn ⟨rfl, rfl, rfl, rfl, rfl, rfl, rfl, rfl, rfl, trivial⟩), s⟩
              · rintro y101 rfl a w ⟨hs102, he, hs⟩
                dsimp only [Ctl.on] at hb83
                refine TC.use ?_ he hs
                refine TC.k ?_
                refine TC.region ?_
                refine TO.s rfl rfl rfl (StepS.assign rfl) ?_
                refine TO.code ?_
                refine TC.k ?_
                refine TC.k ?_
                refine TC.region ?_
                refine TO.s rfl rfl rfl (StepS.move rfl) ?_
                refine TO.s rfl rfl rfl (StepS.move rfl) ?_
                obtain ⟨x131, hx132, hb83⟩ := bind_some hb83
                refine TO.s rfl rfl rfl (StepS.idxRR rfl rfl (SS.rr (Ent.at 0 rfl)) ksliceB_79_22_1_true hx132) ?_
                refine TO.s rfl rfl rfl (StepS.ldRR rfl (SS.rr (Ent.at 0 rfl)) kscalB_22_true hx132) ?_
                refine TO.s rfl rfl rfl (StepS.lenm rfl (RR.row (SS.rr (Ent.at 0 rfl)) hx132) ksliceB_22_3_1_true rfl) ?_
                refine TO.s rfl rfl rfl (StepS.move rfl) ?_
                refine TO.code ?_
                obtain ⟨o145, hw146, hb83⟩ := bind_some hb83
                refine TC.loop hw146 (fun (y136, x137) => fun a w => ∃ v134 : Value, Mid 206 B [(2, I a2), (8, I (a0.length : Int)), (9, v51), (10, v8), (11, v12), (16, I x55), (17, v71), (18, I x75), (20, v134), (138, (rowv hs102 x75.toNat)), (139, I (x131.length : Int)), (140, I x137)] (OwnS 3 1 v134 (y136.map cI) :: SS 22 3 1 cI v71 hs102 (y101) :: SS 22 3 1 cI v51 hs52 (y54) :: OwnS 31 1 v12 (y38.map cU) :: OwnS 3 1 v8 (y39.map cI) :: L) a w) (fun y144 => fun a w => ∃ v142 : Value, Mid 206 B [(2, I a2), (8, I (a0.length : Int)), (9, v51), (10, v8), (11, v12), (16, I x55), (17, v71), (18, I x75), (20, v142)] (OwnS 3 1 v142 (y144.map cI) :: SS 22 3 1 cI v71 hs102 (y101) :: SS 22 3 1 cI v51 hs52 (y54) :: OwnS 31 1 v12 (y38.map cU) :: OwnS 3 1 v8 (y39.map cI) :: L) a w) (fun (_ : Unit) _ _ => False) ?_ ?_ ?_ ?_
                · rintro ⟨y136, x137⟩ o145r hb147 a w ⟨v134, he, hs⟩
                  dsimp only [F40_L5] at hb147
                  refine TC.use ?_ he hs
                  refine TC.k ?_
                  refine TC.region ?_
                  refine TO.s rfl rfl rfl (StepS.cmp rfl rfl rfl) ?_
                  refine TO.code ?_
                  refine TC.k ?_
                  refine TC.cond rfl (fun hc148 => ?_) (fun hc148 => ?_)
                  · replace hb147 := cond_t hc148 hb147
                    refine TC.skipk ?_
                    refine TC.k ?_
                    obtain ⟨y149, hj151, hb147⟩ := bind_some hb147
                    first | refine TC.cutM (fun a w => ∃ v150 : Value, Mid 206 B [(2, I a2), (8, I (a0.length : Int)), (9, v51), (10, v8), (11, v12), (16, I x55), (17, v71), (18, I x75), (20, v150), (138, (rowv hs102 x75.toNat)), (139, I (x131.length : Int)), (140, I x137)] (OwnS 3 1 v150 (y149.map cI) :: SS 22 3 1 cI v71 hs102 (y101) :: SS 22 3 1 cI v51 hs52 (y54) :: OwnS 31 1 v12 (y38.map cU) :: OwnS 3 1 v8 (y39.map cI) :: L) a w) ?_ ?_ | refine TC.cutX (fun a w => ∃ v150 : Value, Mid 206 B [(2, I a2), (8, I (a0.length : Int)), (9, v51), (10, v8), (11, v12), (16, I x55), (17, v71), (18, I x75), (20, v150), (138, (rowv hs102 x75.toNat)), (139, I (x131.length : Int)), (140, I x137)] (OwnS 3 1 v150 (y149.map cI) :: SS 22 3 1 cI v71 hs102 (y101) :: SS 22 3 1 cI v51 hs52 (y54) :: OwnS 31 1 v12 (y38.map cU) :: OwnS 3 1 v8 (y39.map cI) :: L) a w) ?_ ?_
                    · refine TC.block ?_
                      refine TC.k ?_
                      refine TC.region ?_
                      obtain ⟨x152, hx153, hj151⟩ := bind_some hj151
                      refine TO.s rfl rfl rfl (StepS.idx rfl rfl (RR.row (SS.rr (Ent.at 1 rfl)) hx132) ksliceB_22_3_1_true (idx_spec hx153).1 (idxm_lt hx153)) ?_
                      refine TO.s rfl rfl rfl (StepS.ld0 rfl (RR.row (SS.rr (Ent.at 1 rfl)) hx132) kscalB_3_true rfl (idxm hx153) rfl) ?_
                      refine TO.s rfl rfl rfl (StepS.assign rfl) ?_
                      refine TO.code ?_
                      refine TC.k ?_
                      refine TC.region ?_
                      refine TO.s rfl rfl rfl (StepS.move rfl) ?_
                      refine TO.s rfl rfl rfl (StepS.move rfl) ?_
                      obtain ⟨r154, hc155, hj151⟩ := bind_some hj151
                      refine TO.q rfl rfl rfl (StepQ.call kcallB_62_true rfl rfl (fun _ st => C62 (OwnS.rd (Ent.at 0 rfl)) hc155 st)) ?_
                      refine TO.s rfl rfl rfl (StepS.not rfl) ?_
                      refine TO.code ?_
                      refine TC.cond rfl (fun hc156 => ?_) (fun hc156 => ?_)
                      · replace hj151 := cond_t hc156 hj151
                        refine TC.region ?_
                        refine TO.s rfl rfl rfl (StepS.move rfl) ?_
                        refine TO.s rfl rfl rfl (StepS.move rfl) ?_
                        refine TO.litS (f := cI) ([x152] : List Int) kelemB_22_3_1_8_true kinfo_3_bind_zero_some_I_0 rfl rfl (fun _ => rfl) rfl rfl (by kernel_rfl) rfl fun v157 => ?_
                        obtain ⟨y159, hk160, hj151⟩ := bind_some hj151
                        refine TO.app (k := 1) (f := cI) kelemB_22_3_1_8_true (by decide) rfl rfl rfl (OwnS.rd (Ent.at 0 rfl)) hk160 (fun x c hc => by simp [Value.oneCell'] at hc ⊢; first | (obtain rfl := hc; rfl) | (rcases hc with rfl <;> rfl)) rfl rfl fun v161 => ?_
                        refine TO.s rfl rfl rfl (StepS.assign rfl) ?_
                        cases hj151
                        refine TO.nil fun a w e s => ?_
                        exact ⟨v161, e.sub (lk_of_allIn ⟨rfl, rfl, rfl, rfl, rfl, rfl, rfl, rfl, rfl, rfl, rfl, rfl, trivial⟩), s.mono fun _ => Sat.dropN 1⟩
                      · replace hj151 := cond_f hc156 hj151
                        cases hj151
                        refine TC.skip fun a w e s => ?_
                        exact ⟨v134, e.sub (lk_of_allIn ⟨rfl, rfl, rfl, rfl, rfl, rfl, rfl, rfl, rfl, rfl, rfl, rfl, trivial⟩), s⟩
                    · intro a w ⟨v150, he, hs⟩
                      refine TC.use ?_ he hs
                      refine TC.region ?_
                      refine TO.s rfl rfl rfl (StepS.ari rfl rfl rfl) ?_
                      refine TO.s rfl rfl rfl (StepS.move rfl) ?_
                      cases hb147
                      refine TO.nil fun a w e s => ?_
                      exact ⟨v150, e.sub (lk_of_allIn ⟨rfl, rfl, rfl, rfl, rfl, rfl, rfl, rfl, rfl, rfl, rfl, rfl, trivial⟩), s⟩
                  · replace hb147 := cond_f hc148 hb147
                    cases hb147
                    refine TC.exit rfl fun a w e s => ?_
                    exact ⟨v134, e.sub (lk_of_allIn ⟨rfl, rfl, rfl, rfl, rfl, rfl, rfl, rfl, rfl, trivial⟩), s⟩
                · exact fun a w e s => ⟨.slice none 0 0, e.sub (lk_of_allIn ⟨rfl, rfl, rfl, rfl, rfl, rfl, rfl, rfl, rfl, rfl, rfl, rfl, trivial⟩), s.mono fun _ s => (by replace s := Sat.front 3 rfl s; replace s := Sat.front 3 rfl s; replace s := Sat.front 3 rfl s; replace s := Sat.front 3 rfl s; replace s := Sat.nilS (e := 3) (sz := 1) (f := cI) s; exact s)⟩
                · rintro y144 rfl a w ⟨v142, he, hs⟩
                  dsimp only [Ctl.on] at hb83
                  refine TC.use ?_ he hs
                  refine TC.region ?_
                  refine TO.s rfl rfl rfl (StepS.move rfl) ?_
                  refine TO.s rfl rfl rfl (StepS.move rfl) ?_
                  refine TO.s rfl rfl rfl (StepS.move rfl) ?_
                  obtain ⟨x162, hx163, hb83⟩ := bind_some hb83
                  refine TO.s rfl rfl rfl (StepS.idxRR rfl rfl (SS.rr (Ent.at 1 rfl)) ksliceB_79_22_1_true hx163) ?_
                  refine TO.ghost (fun _ s => Sat.front 1 rfl s) ?_
                  refine TO.stRow (xs := y144) rfl rfl hx163 ksizeB_22_1_true ?_
                  refine TO.code ?_
                  refine TC.region ?_
                  refine TO.s rfl rfl rfl (StepS.move rfl) ?_
                  refine TO.s rfl rfl rfl (StepS.ari rfl rfl rfl) ?_
                  refine TO.s rfl rfl rfl (StepS.assign rfl) ?_
                  cases hb83
                  refine TO.nil fun a w e s => ?_
                  exact ⟨(hs102.set x75.toNat v142), e.sub (lk_of_allIn ⟨rfl, rfl, rfl, rfl, rfl, rfl, rfl, rfl, trivial⟩), s⟩
                · rintro r rfl
                  exact fun a w h => h.elim
              · rintro r rfl
                exact fun a w h => h.elim
            · replace hb83 := cond_f hc84 hb83
              cases hb83
              refine TC.exit rfl fun a w e s => ?_
              exact ⟨hs74, e.sub (lk_of_allIn ⟨rfl, rfl, rfl, rfl, rfl, rfl, trivial⟩), s⟩
          · exact fun a w e s => ⟨(y69.map fun _ => nilv), e.sub (lk_of_allIn ⟨rfl, rfl, rfl, rfl, rfl, rfl, rfl, rfl, trivial⟩), s⟩
          · rintro y79 rfl a w ⟨hs80, he, hs⟩
            dsimp only [Ctl.on] at hb67
            refine TC.use ?_ he hs
            refine TC.region ?_
            refine TO.s rfl rfl rfl (StepS.move rfl) ?_
            refine TO.s rfl rfl rfl (StepS.assign rfl) ?_
            refine TO.code ?_
            refine TC.region ?_
            refine TO.s rfl rfl rfl (StepS.move rfl) ?_
            refine TO.s rfl rfl rfl (StepS.ari rfl rfl rfl) ?_
            refine TO.s rfl rfl rfl (StepS.assign rfl) ?_
            cases hb67
            refine TO.nil fun a w e s => ?_
            exact ⟨v71, hs80, e.sub (lk_of_allIn ⟨rfl, rfl, rfl, rfl, rfl, rfl, trivial⟩), s.mono fun _ s => (by replace s := Sat.front 3 rfl s; replace s := Sat.front 3 rfl s; replace s := Sat.front 2 rfl s; replace s := Sat.erase 3 s; exact s)⟩
          · rintro r rfl
            exact fun a w h => h.elim
        · replace hb67 := cond_f hc68 hb67
          cases hb67
          refine TC.exit rfl fun a w e s => ?_
          exact ⟨v51, hs52, e.sub (lk_of_allIn ⟨rfl, rfl, rfl, trivial⟩), s⟩
      · exact fun a w e s => ⟨v4, hs21, e.sub (lk_of_allIn ⟨rfl, rfl, rfl, rfl, rfl, rfl, trivial⟩), s.mono fun _ s => (by replace s := Sat.front 1 rfl s; replace s := Sat.front 1 rfl s; replace s := Sat.front 2 rfl s; exact s)⟩
      · rintro y64 rfl a w ⟨v61, hs62, he, hs⟩
        dsimp only [Ctl.on] at hm
        refine TC.use ?_ he hs
        refine TC.k ?_
        refine TC.region ?_
        refine TO.s rfl rfl rfl (StepS.move rfl) ?_
        obtain ⟨y164, hk165, hm⟩ := bind_some hm
        refine TO.mkS (f := cI) (za := 0) kelemB_22_3_1_8_true kinfo_3_bind_zero_some_I_0 rfl (by decide) rfl rfl hk165 rfl fun v166 => ?_
        refine TO.s rfl rfl rfl (StepS.assign rfl) ?_
        refine TO.code ?_
        refine TC.k ?_
        refine TC.region ?_
        refine TO.s rfl rfl rfl (StepS.assign rfl) ?_
        refine TO.code ?_
        refine TC.k ?_
        refine TC.k ?_
        refine TC.region ?_
        refine TO.s rfl rfl rfl (StepS.assign rfl) ?_
        refine TO.code ?_
        obtain ⟨o176, hw177, hm⟩ := bind_some hm
        refine TC.loop hw177 (fun (y168, x169, x170) => fun a w => Mid 206 B [(8, I (a0.length : Int)), (9, v61), (10, v8), (23, v166), (24, U x169), (25, I x170)] (OwnS 3 1 v166 (y168.map cI) :: SS 22 3 1 cI v61 hs62 (y64) :: OwnS 31 1 v12 (y38.map cU) :: OwnS 3 1 v8 (y39.map cI) :: L) a w) (fun (y174, x175) => fun a w => Mid 206 B [(23, v166), (24, U x175)] (OwnS 3 1 v166 (y174.map cI) :: SS 22 3 1 cI v61 hs62 (y64) :: OwnS 31 1 v12 (y38.map cU) :: OwnS 3 1 v8 (y39.map cI) :: L) a w) (fun (_ : Unit) _ _ => False) ?_ ?_ ?_ ?_
        · rintro ⟨y168, x169, x170⟩ o176r hb178 a w ⟨he, hs⟩
          dsimp only [F40_L6] at hb178
          refine TC.use ?_ he hs
          refine TC.k ?_
          refine TC.k ?_
          refine TC.region ?_
          refine TO.s rfl rfl rfl (StepS.move rfl) ?_
          refine TO.s rfl rfl rfl (StepS.move rfl) ?_
          refine TO.s rfl rfl rfl (StepS.cmp rfl rfl rfl) ?_
          refine TO.code ?_
          refine TC.cond rfl (fun hc179 => ?_) (fun hc179 => ?_)
          · replace hb178 := cond_t hc179 hb178
            refine TC.skipk ?_
            refine TC.k ?_
            obtain ⟨⟨y180, x181⟩, hj182, hb178⟩ := bind_some hb178
            first | refine TC.cutM (fun a w => Mid 206 B [(8, I (a0.length : Int)), (9, v61), (10, v8), (23, v166), (24, U x181), (25, I x170)] (OwnS 3 1 v166 (y180.map cI) :: SS 22 3 1 cI v61 hs62 (y64) :: OwnS 31 1 v12 (y38.map cU) :: OwnS 3 1 v8 (y39.map cI) :: L) a w) ?_ ?_ | refine TC.cutX (fun a w => Mid 206 B [(8, I (a0.length : Int)), (9, v61), (10, v8), (23, v166), (24, U x181), (25, I x170)] (OwnS 3 1 v166 (y180.map cI) :: SS 22 3 1 cI v61 hs62 (y64) :: OwnS 31 1 v12 (y38.map cU) :: OwnS 3 1 v8 (y39.map cI) :: L) a w) ?_ ?_
            · refine TC.block ?_
              refine TC.k ?_
              refine TC.k ?_
              refine TC.region ?_
              refine TO.s rfl rfl rfl (StepS.move rfl) ?_
              refine TO.s rfl rfl rfl (StepS.move rfl) ?_
              obtain ⟨x183, hx184, hj182⟩ := bind_some hj182
              refine TO.s rfl rfl rfl (StepS.idx rfl rfl (OwnS.rd (Ent.at 3 rfl)) ksliceB_22_3_1_true (idx_spec hx184).1 (idxm_lt hx184)) ?_
              refine TO.s rfl rfl rfl (StepS.ld0 rfl (OwnS.rd (Ent.at 3 rfl)) kscalB_3_true rfl (idxm hx184) rfl) ?_
              refine TO.s rfl rfl rfl (StepS.cmp rfl rfl rfl) ?_
              refine TO.code ?_
              refine TC.cond rfl (fun hc185 => ?_) (fun hc185 => ?_)
              · replace hj182 := cond_t hc185 hj182
                cases hj182
                refine TC.exit rfl fun a w e s => ?_
                exact ⟨e.sub (lk_of_allIn ⟨rfl, rfl, rfl, rfl, rfl, rfl, trivial⟩), s⟩
              · replace hj182 := cond_f hc185 hj182
                refine TC.skipk ?_
                refine TC.k ?_
                refine TC.region ?_
                refine TO.s rfl rfl rfl (StepS.move rfl) ?_
                refine TO.s rfl rfl rfl (StepS.move rfl) ?_
                refine TO.s rfl rfl rfl (StepS.cvIV kintB_3_i64_true kintB_42_u64_true rfl) ?_
                refine TO.s rfl rfl rfl (StepS.shl (m := 1#32) rfl rfl (u64_nonneg _)) ?_
                refine TO.s rfl rfl rfl (StepS.bitU rfl rfl rfl) ?_
                refine TO.s rfl rfl rfl (StepS.assign rfl) ?_
                refine TO.code ?_
                refine TC.k ?_
                refine TC.region ?_
                refine TO.s rfl rfl rfl (StepS.move rfl) ?_
                refine TO.s rfl rfl rfl (StepS.move rfl) ?_
                refine TO.s rfl rfl rfl (StepS.move rfl) ?_
                refine TO.s rfl rfl rfl (StepS.move rfl) ?_
                obtain ⟨x186, hx187, hj182⟩ := bind_some hj182
                refine TO.s rfl rfl rfl (StepS.idxRR rfl rfl (SS.rr (Ent.at 1 rfl)) ksliceB_79_22_1_true hx187) ?_
                refine TO.s rfl rfl rfl (StepS.ldRR rfl (SS.rr (Ent.at 1 rfl)) kscalB_22_true hx187) ?_
                obtain ⟨x189, hx190, hj182⟩ := bind_some hj182
                refine TO.s rfl rfl rfl (StepS.idx rfl rfl (RR.row (SS.rr (Ent.at 1 rfl)) hx187) ksliceB_22_3_1_true (idx_spec hx190).1 (idxm_lt hx190)) ?_
                refine TO.s rfl rfl rfl (StepS.ld0 rfl (RR.row (SS.rr (Ent.at 1 rfl)) hx187) kscalB_3_true rfl (idxm hx190) rfl) ?_
                obtain ⟨x191, hx192, hj182⟩ := bind_some hj182
                refine TO.s rfl rfl rfl (StepS.idx rfl rfl (OwnS.rd (Ent.at 0 rfl)) ksliceB_22_3_1_true (idx_spec hx192).1 (idxm_lt hx192)) ?_
                refine TO.stO (i := x170.toNat) (off := 0) (us := [I x189]) 0 x189 rfl rfl rfl ksizeB_3_1_true rfl rfl rfl (idx_spec hx192).2 rfl (by simp [Value.oneCell']) rfl ?_
                refine TO.code ?_
                refine TC.k ?_
                refine TC.region ?_
                refine TO.s rfl rfl rfl (StepS.move rfl) ?_
                refine TO.s rfl rfl rfl (StepS.move rfl) ?_
                obtain ⟨x193, hx194, hj182⟩ := bind_some hj182
                refine TO.s rfl rfl rfl (StepS.idxRR rfl rfl (SS.rr (Ent.at 1 rfl)) ksliceB_79_22_1_true hx194) ?_
                refine TO.s rfl rfl rfl (StepS.ldRR rfl (SS.rr (Ent.at 1 rfl)) kscalB_22_true hx194) ?_
                refine TO.s rfl rfl rfl (StepS.lenm rfl (RR.row (SS.rr (Ent.at 1 rfl)) hx194) ksliceB_22_3_1_true rfl) ?_
                refine TO.s rfl rfl rfl (StepS.move rfl) ?_
                refine TO.code ?_
                obtain ⟨o201, hw202, hj182⟩ := bind_some hj182
                refine TC.loop hw202 (fun (y196, x197) => fun a w => Mid 206 B [(8, I (a0.length : Int)), (9, v61), (10, v8), (23, v166), (24, U (x169 + ((1#32) <<< (u64 x170).toNat))), (25, I x170), (187, (rowv hs62 x170.toNat)), (188, I (x193.length : Int)), (189, I x197)] (OwnS 3 1 v166 (y196.map cI) :: SS 22 3 1 cI v61 hs62 (y64) :: OwnS 31 1 v12 (y38.map cU) :: OwnS 3 1 v8 (y39.map cI) :: L) a w) (fun y200 => fun a w => Mid 206 B [(8, I (a0.length : Int)), (9, v61), (10, v8), (23, v166), (24, U (x169 + ((1#32) <<< (u64 x170).toNat))), (25, I x170)] (OwnS 3 1 v166 (y200.map cI) :: SS 22 3 1 cI v61 hs62 (y64) :: OwnS 31 1 v12 (y38.map cU) :: OwnS 3 1 v8 (y39.map cI) :: L) a w) (fun (_ : Unit) _ _ => False) ?_ ?_ ?_ ?_
                · rintro ⟨y196, x197⟩ o201r hb203 a w ⟨he, hs⟩
                  dsimp only [F40_L7] at hb203
                  refine TC.use ?_ he hs
                  refine TC.k ?_
                  refine TC.region ?_
                  refine TO.s rfl rfl rfl (StepS.cmp rfl rfl rfl) ?_
                  refine TO.code ?_
                  refine TC.k ?_
                  refine TC.cond rfl (fun hc204 => ?_) (fun hc204 => ?_)
                  · replace hb203 := cond_t hc204 hb203
                    refine TC.skipk ?_
                    refine TC.k ?_
                    obtain ⟨y205, hj206, hb203⟩ := bind_some hb203
                    first | refine TC.cutM (fun a w => Mid 206 B [(8, I (a0.length : Int)), (9, v61), (10, v8), (23, v166), (24, U (x169 + ((1#32) <<< (u64 x170).toNat))), (25, I x170), (187, (rowv hs62 x170.toNat)), (188, I (x193.length : Int)), (189, I x197)] (OwnS 3 1 v166 (y205.map cI) :: SS 22 3 1 cI v61 hs62 (y64) :: OwnS 31 1 v12 (y38.map cU) :: OwnS 3 1 v8 (y39.map cI) :: L) a w) ?_ ?_ | refine TC.cutX (fun a w => Mid 206 B [(8, I (a0.length : Int)), (9, v61), (10, v8), (23, v166), (24, U (x169 + ((1#32) <<< (u64 x170).toNat))), (25, I x170), (187, (rowv hs62 x170.toNat)), (188, I (x193.length : Int)), (189, I x197)] (OwnS 3 1 v166 (y205.map cI) :: SS 22 3 1 cI v61 hs62 (y64) :: OwnS 31 1 v12 (y38.map cU) :: OwnS 3 1 v8 (y39.map cI) :: L) a w) ?_ ?_
                    · refine TC.block ?_
                      refine TC.k ?_
                      refine TC.region ?_
                      obtain ⟨x207, hx208, hj206⟩ := bind_some hj206
                      refine TO.s rfl rfl rfl (StepS.idx rfl rfl (RR.row (SS.rr (Ent.at 1 rfl)) hx194) ksliceB_22_3_1_true (idx_spec hx208).1 (idxm_lt hx208)) ?_
                      refine TO.s rfl rfl rfl (StepS.ld0 rfl (RR.row (SS.rr (Ent.at 1 rfl)) hx194) kscalB_3_true rfl (idxm hx208) rfl) ?_
                      refine TO.s rfl rfl rfl (StepS.assign rfl) ?_
                      refine TO.code ?_
                      refine TC.k ?_
                      refine TC.region ?_
                      refine TO.s rfl rfl rfl (StepS.move rfl) ?_
                      refine TO.s rfl rfl rfl (StepS.move rfl) ?_
                      refine TO.s rfl rfl rfl (StepS.move rfl) ?_
                      obtain ⟨x209, hx210, hj206⟩ := bind_some hj206
                      refine TO.s rfl rfl rfl (StepS.idx rfl rfl (OwnS.rd (Ent.at 0 rfl)) ksliceB_22_3_1_true (idx_spec hx210).1 (idxm_lt hx210)) ?_
                      refine TO.s rfl rfl rfl (StepS.ld0 rfl (OwnS.rd (Ent.at 0 rfl)) kscalB_3_true rfl (idxm hx210) rfl) ?_
                      refine TO.s rfl rfl rfl (StepS.cmp rfl rfl rfl) ?_
                      refine TO.code ?_
                      refine TC.cond rfl (fun hc211 => ?_) (fun hc211 => ?_)
                      · replace hj206 := cond_t hc211 hj206
                        refine TC.region ?_
                        refine TO.s rfl rfl rfl (StepS.move rfl) ?_
                        refine TO.s rfl rfl rfl (StepS.move rfl) ?_
                        refine TO.s rfl rfl rfl (StepS.move rfl) ?_
                        obtain ⟨x212, hx213, hj206⟩ := bind_some hj206
                        refine TO.s rfl rfl rfl (StepS.idx rfl rfl (OwnS.rd (Ent.at 0 rfl)) ksliceB_22_3_1_true (idx_spec hx213).1 (idxm_lt hx213)) ?_
                        refine TO.stO (i := x170.toNat) (off := 0) (us := [I x207]) 0 x207 rfl rfl rfl ksizeB_3_1_true rfl rfl rfl (idx_spec hx213).2 rfl (by simp [Value.oneCell']) rfl ?_
                        cases hj206
                        refine TO.nil fun a w e s => ?_
                        exact ⟨e.sub (lk_of_allIn ⟨rfl, rfl, rfl, rfl, rfl, rfl, rfl, rfl, rfl, trivial⟩), s⟩
                      · replace hj206 := cond_f hc211 hj206
                        cases hj206
                        refine TC.skip fun a w e s => ?_
                        exact ⟨e.sub (lk_of_allIn ⟨rfl, rfl, rfl, rfl, rfl, rfl, rfl, rfl, rfl, trivial⟩), s⟩
                    · intro a w ⟨he, hs⟩
                      refine TC.use ?_ he hs
                      refine TC.region ?_
                      refine TO.s rfl rfl rfl (StepS.ari rfl rfl rfl) ?_
                      refine TO.s rfl rfl rfl (StepS.move rfl) ?_
                      cases hb203
                      refine TO.nil fun a w e s => ?_
                      exact ⟨e.sub (lk_of_allIn ⟨rfl, rfl, rfl, rfl, rfl, rfl, rfl, rfl, rfl, trivial⟩), s⟩
                  · replace hb203 := cond_f hc204 hb203
                    cases hb203
                    refine TC.exit rfl fun a w e s => ?_
                    exact ⟨e.sub (lk_of_allIn ⟨rfl, rfl, rfl, rfl, rfl, rfl, trivial⟩), s⟩
                · exact fun a w e s => ⟨e.sub (lk_of_allIn ⟨rfl, rfl, rfl, rfl, rfl, rfl, rfl, rfl, rfl, trivial⟩), s⟩
                · rintro y200 rfl a w ⟨he, hs⟩
                  dsimp only [Ctl.on] at hj182
                  cases hj182
                  have e := he; have s := hs
                  exact ⟨e.sub (lk_of_allIn ⟨rfl, rfl, rfl, rfl, rfl, rfl, trivial⟩), s⟩
                · rintro r rfl
                  exact fun a w h => h.elim
            · intro a w ⟨he, hs⟩
              refine TC.use ?_ he hs
              refine TC.region ?_
              refine TO.s rfl rfl rfl (StepS.move rfl) ?_
              refine TO.s rfl rfl rfl (StepS.ari rfl rfl rfl) ?_
              refine TO.s rfl rfl rfl (StepS.assign rfl) ?_
              cases hb178
              refine TO.nil fun a w e s => ?_
              exact ⟨e.sub (lk_of_allIn ⟨rfl, rfl, rfl, rfl, rfl, rfl, trivial⟩), s⟩
          · replace hb178 := cond_f hc179 hb178
            cases hb178
            refine TC.exit rfl fun a w e s => ?_
            exact ⟨e.sub (lk_of_allIn ⟨rfl, rfl, trivial⟩), s⟩
        · exact fun a w e s => ⟨e.sub (lk_of_allIn ⟨rfl, rfl, rfl, rfl, rfl, rfl, trivial⟩), s⟩
        · rintro ⟨y174, x175⟩ rfl a w ⟨he, hs⟩
          dsimp only [Ctl.on] at hm
          refine TC.use ?_ he hs
          refine TC.k ?_
          refine TC.region ?_
          refine TO.s rfl rfl rfl (StepS.move rfl) ?_
          refine TO.s rfl rfl rfl (StepS.move rfl) ?_
          refine TO.s rfl rfl rfl (StepS.assign rfl) ?_
          refine TO.s rfl rfl rfl (StepS.assign rfl) ?_
          refine TO.code ?_
          cases hm
          refine TC.ret fun a w e s => ?_
          refine FRet.mk2 (P := Try.prog) (fn := Try.f40) (t := 6) (u := 7) e rfl rfl rfl ?_
          refine ⟨_, _, rfl, ⟨(v166), rfl, rfl⟩, ?_⟩
          refine s.mono fun _ s => ?_
          replace s := Sat.front 0 rfl s
          replace s := Sat.erase 1 s
          replace s := Sat.erase 1 s
          replace s := Sat.erase 1 s
          exact s
        · rintro r rfl
          exact fun a w h => h.elim
      · rintro r rfl
        exact fun a w h => h.elim
    · rintro r rfl
      exact fun a w h => h.elim
  · rintro r rfl
    exact fun a w h => h.elim

set_option maxRecDepth 100000 in
theorem C29 {B : World} {L : List HP} {a0 : List Int} {a1 : List Int} {h0 : Value} {h1 : Value} {r0 : Bool} (e0 : Ent L (Rd 1 h0 (a0.map cI))) (e1 : Ent L (Rd 1 h1 (a1.map cI))) (hm : F29 a0 a1 = some r0) {w : World} (st : St B L w) : Calls Try.prog 29 #[h0, h1] w (fun e w' => (e = .returned (.bool r0) ∧ St B (L) w')) := by
  refine calls_of (N := 26) (L := L) (args := [h0, h1]) Try.func29 rfl rfl rfl ?_ st
  dsimp only [F29] at hm
  refine TC.k ?_
  refine TC.region ?_
  refine TO.s rfl rfl rfl (StepS.assign rfl) ?_
  refine TO.code ?_
  refine TC.k ?_
  refine TC.k ?_
  refine TC.region ?_
  refine TO.s rfl rfl rfl (StepS.move rfl) ?_
  refine TO.s rfl rfl rfl (StepS.lenm rfl e0 ksliceB_22_3_1_true rfl) ?_
  refine TO.s rfl rfl rfl (StepS.move rfl) ?_
  refine TO.s rfl rfl rfl (StepS.lenm rfl e1 ksliceB_22_3_1_true rfl) ?_
  refine TO.s rfl rfl rfl (StepS.cmp rfl rfl rfl) ?_
  refine TO.code ?_
  refine TC.cond rfl (fun hc1 => ?_) (fun hc1 => ?_)
  · replace hm := cond_t hc1 hm
    refine TC.k ?_
    refine TC.region ?_
    refine TO.s rfl rfl rfl (StepS.assign rfl) ?_
    refine TO.code ?_
    cases hm
    refine TC.ret fun a w e s => ?_
    refine FRet.mk1 (P := Try.prog) (fn := Try.f29) (t := 4) e rfl rfl ?_
    exact ⟨rfl, s.mono fun _ => Sat.dropN 0⟩
  · replace hm := cond_f hc1 hm
    refine TC.skipk ?_
    refine TC.k ?_
    refine TC.k ?_
    refine TC.region ?_
    refine TO.s rfl rfl rfl (StepS.assign rfl) ?_
    refine TO.code ?_
    obtain ⟨o4, hw5, hm⟩ := bind_some hm
    refine TC.loop hw5 (fun x2 => fun a w => Mid 26 B [(0, h0), (1, h1), (5, I x2)] (L) a w) (fun _ => fun a w => Mid 26 B [] (L) a w) (fun r0 => FRet Try.prog Try.f29 (fun e w' => (e = .returned (.bool r0) ∧ St B (L) w'))) ?_ ?_ ?_ ?_
    · rintro x2 o4r hb6 a w ⟨he, hs⟩
      dsimp only [F29_L0] at hb6
      refine TC.use ?_ he hs
      refine TC.k ?_
      refine TC.k ?_
      refine TC.region ?_
      refine TO.s rfl rfl rfl (StepS.move rfl) ?_
      refine TO.s rfl rfl rfl (StepS.move rfl) ?_
      refine TO.s rfl rfl rfl (StepS.lenm rfl e0 ksliceB_22_3_1_true rfl) ?_
      refine TO.s rfl rfl rfl (StepS.cmp rfl rfl rfl) ?_
      refine TO.code ?_
      refine TC.cond rfl (fun hc7 => ?_) (fun hc7 => ?_)
      · replace hb6 := cond_t hc7 hb6
        refine TC.skipk ?_
        refine TC.k ?_
        refine TC.block ?_
        refine TC.k ?_
        refine TC.region_still kfollows_mixedOrders_true (by kernel_rfl) ?_
        refine TS.s rfl rfl rfl (StepS.move rfl) ?_
        refine TS.s rfl rfl rfl (StepS.move rfl) ?_
        obtain ⟨x8, hx9, hb6⟩ := bind_some hb6
        refine TS.s rfl rfl rfl (StepS.idx rfl rfl e0 ksliceB_22_3_1_true (idx_spec hx9).1 (idxm_lt hx9)) ?_
        refine TS.s rfl rfl rfl (StepS.ld0 rfl e0 kscalB_3_true rfl (idxm hx9) rfl) ?_
        refine TS.s rfl rfl rfl (StepS.move rfl) ?_
        refine TS.s rfl rfl rfl (StepS.move rfl) ?_
        obtain ⟨x10, hx11, hb6⟩ := bind_some hb6
        refine TS.s rfl rfl rfl (StepS.idx rfl rfl e1 ksliceB_22_3_1_true (idx_spec hx11).1 (idxm_lt hx11)) ?_
        refine TS.s rfl rfl rfl (StepS.ld0 rfl e1 kscalB_3_true rfl (idxm hx11) rfl) ?_
        refine TS.s rfl rfl rfl (StepS.cmp rfl rfl rfl) ?_
        refine TS.code ?_
        refine TC.cond rfl (fun hc12 => ?_) (fun hc12 => ?_)
        · replace hb6 := cond_t hc12 hb6
          refine TC.k ?_
          refine TC.region ?_
          refine TO.s rfl rfl rfl (StepS.assign rfl) ?_
          refine TO.code ?_
          cases hb6
          refine TC.ret fun a w e s => ?_
          refine FRet.mk1 (P := Try.prog) (fn := Try.f29) (t := 4) e rfl rfl ?_
          exact ⟨rfl, s.mono fun _ => Sat.dropN 0⟩
        · replace hb6 := cond_f hc12 hb6
          refine TC.skipk ?_
          refine TC.region ?_
          refine TO.s rfl rfl rfl (StepS.move rfl) ?_
          refine TO.s rfl rfl rfl (StepS.ari rfl rfl rfl) ?_
          refine TO.s rfl rfl rfl (StepS.assign rfl) ?_
          cases hb6
          refine TO.nil fun a w e s => ?_
          exact ⟨e.sub (lk_of_allIn ⟨rfl, rfl, rfl, trivial⟩), s⟩
      · replace hb6 := cond_f hc7 hb6
        cases hb6
        refine TC.exit rfl fun a w e s => ?_
        exact ⟨e.sub (lk_of_allIn trivial), s⟩
    · exact fun a w e s => ⟨e.sub (lk_of_allIn ⟨rfl, rfl, rfl, trivial⟩), s⟩
    · rintro _ rfl a w ⟨he, hs⟩
      dsimp only [Ctl.on] at hm
      refine TC.use ?_ he hs
      refine TC.k ?_
      refine TC.region ?_
      refine TO.s rfl rfl rfl (StepS.assign rfl) ?_
      refine TO.code ?_
      cases hm
      refine TC.ret fun a w e s => ?_
      refine FRet.mk1 (P := Try.prog) (fn := Try.f29) (t := 4) e rfl rfl ?_
      exact ⟨rfl, s.mono fun _ => Sat.dropN 0⟩
    · rintro r rfl
      cases hm
      exact fun a w h => h

set_option maxRecDepth 100000 in
theorem C13 {B : World} {L : List HP} {a0 : List Int} {a1 : List (Int × Int × BitVec 32)} {a2 : Int} {h0 : Value} {h1 : Value} {r0 : Bool} (e0 : Ent L (Rd 1 h0 (a0.map cI))) (e1 : Ent L (Rd 3 h1 (a1.map cTiiiu32))) (hm : F13 a0 a1 a2 = some r0) {w : World} (st : St B L w) : Calls Try.prog 13 #[h0, h1, I a2] w (fun e w' => (e = .returned (.bool r0) ∧ St B (L) w')) := by
  refine calls_of (N := 58) (L := L) (args := [h0, h1, I a2]) Try.func13 rfl rfl rfl ?_ st
  dsimp only [F13] at hm
  refine TC.k ?_
  refine TC.region ?_
  refine TO.s rfl rfl rfl (StepS.assign rfl) ?_
  refine TO.code ?_
  refine TC.k ?_
  refine TC.region ?_
  refine TO.s rfl rfl rfl (StepS.move rfl) ?_
  refine TO.s rfl rfl rfl (StepS.move rfl) ?_
  refine TO.s rfl rfl rfl (StepS.move rfl) ?_
  obtain ⟨⟨r1, r2, r3⟩, hc4, hm⟩ := bind_some hm
  refine TO.callO kcallB_38_true rfl rfl rfl (fun _ st => C38 e0 e1 hc4 st) ?_
  rintro _ _ ⟨v5, rfl, rfl⟩
  refine TO.s rfl rfl rfl (StepS.move rfl) ?_
  refine TO.s rfl rfl rfl (StepS.extract rfl rfl) ?_
  refine TO.s rfl rfl rfl (StepS.extract rfl rfl) ?_
  refine TO.s rfl rfl rfl (StepS.extract rfl rfl) ?_
  refine TO.s rfl rfl rfl (StepS.assign rfl) ?_
  refine TO.s rfl rfl rfl (StepS.assign rfl) ?_
  refine TO.s rfl rfl rfl (StepS.assign rfl) ?_
  refine TO.code ?_
  refine TC.k ?_
  refine TC.region ?_
  refine TO.s rfl rfl rfl (StepS.move rfl) ?_
  refine TO.s rfl rfl rfl (StepS.move rfl) ?_
  refine TO.s rfl rfl rfl (StepS.move rfl) ?_
  obtain ⟨r7, hc8, hm⟩ := bind_some hm
  refine TO.q rfl rfl rfl (StepQ.call kcallB_39_true rfl rfl (fun _ st => C39 e0.tl e1.tl hc8 st)) ?_
  refine TO.s rfl rfl rfl (StepS.assign rfl) ?_
  refine TO.code ?_
  refine TC.k ?_
  refine TC.k ?_
  refine TC.region ?_
  refine TO.s rfl rfl rfl (StepS.move rfl) ?_
  refine TO.s rfl rfl rfl (StepS.cmp rfl rfl rfl) ?_
  refine TO.code ?_
  refine TC.cond rfl (fun hc9 => ?_) (fun hc9 => ?_)
  · replace hm := cond_t hc9 hm
    refine TC.k ?_
    refine TC.region ?_
    refine TO.s rfl rfl rfl (StepS.move rfl) ?_
    refine TO.s rfl rfl rfl (StepS.move rfl) ?_
    refine TO.s rfl rfl rfl (StepS.cmp rfl rfl rfl) ?_
    refine TO.s rfl rfl rfl (StepS.move rfl) ?_
    refine TO.mid1 4 34 (.bool ((r3 == r7) && ((r1.length : Int) == 0))) ?_ ?_
    · refine bcase ((r3 == r7)) (fun hb10 => ?_) (fun hb10 => ?_)
      · refine TO.sw rfl rfl rfl hb10 rfl rfl (StepS.move rfl) ?_
        refine TO.sw rfl rfl rfl hb10 rfl rfl (StepS.lenm rfl (OwnS.rd (Ent.at 0 rfl)) ksliceB_22_3_1_true rfl) ?_
        refine TO.sw rfl rfl rfl hb10 rfl rfl (StepS.cmp rfl rfl rfl) ?_
        refine TO.s rfl rfl rfl (StepS.pickT rfl hb10 rfl) ?_
        exact TO.up1 4 0 rfl rfl (by rw [hb10]; rfl) rfl
      · refine TO.skip rfl rfl rfl (skipF hb10) rfl rfl ?_
        refine TO.skip rfl rfl rfl (skipF hb10) rfl rfl ?_
        refine TO.skip rfl rfl rfl (skipF hb10) rfl rfl ?_
        refine TO.s rfl rfl rfl (StepS.pickF rfl hb10 rfl) ?_
        exact TO.up1 4 0 rfl rfl (by rw [hb10]; rfl) rfl
    refine TO.s rfl rfl rfl (StepS.move rfl) ?_
    refine TO.mid1 3 38 (.bool (((r3 == r7) && ((r1.length : Int) == 0)) && (r2 == (0#32)))) ?_ ?_
    · refine bcase (((r3 == r7) && ((r1.length : Int) == 0))) (fun hb11 => ?_) (fun hb11 => ?_)
      · refine TO.sw rfl rfl rfl hb11 rfl rfl (StepS.move rfl) ?_
        refine TO.sw rfl rfl rfl hb11 rfl rfl (StepS.cmpU (n := 0#32) rfl rfl rfl) ?_
        refine TO.s rfl rfl rfl (StepS.pickT rfl hb11 rfl) ?_
        exact TO.up1 3 0 rfl rfl (by rw [hb11]; rfl) rfl
      · refine TO.skip rfl rfl rfl (skipF hb11) rfl rfl ?_
        refine TO.skip rfl rfl rfl (skipF hb11) rfl rfl ?_
        refine TO.s rfl rfl rfl (StepS.pickF rfl hb11 rfl) ?_
        exact TO.up1 3 0 rfl rfl (by rw [hb11]; rfl) rfl
    refine TO.s rfl rfl rfl (StepS.assign rfl) ?_
    refine TO.code ?_
    cases hm
    refine TC.ret fun a w e s => ?_
    refine FRet.mk1 (P := Try.prog) (fn := Try.f13) (t := 6) e rfl rfl ?_
    exact ⟨rfl, s.mono fun _ => Sat.dropN 1⟩
  · replace hm := cond_f hc9 hm
    refine TC.skipk ?_
    refine TC.k ?_
    refine TC.region ?_
    refine TO.s rfl rfl rfl (StepS.move rfl) ?_
    refine TO.s rfl rfl rfl (StepS.move rfl) ?_
    refine TO.s rfl rfl rfl (StepS.move rfl) ?_
    obtain ⟨⟨r12, r13⟩, hc14, hm⟩ := bind_some hm
    refine TO.callO kcallB_40_true rfl rfl rfl (fun _ st => C40 e0.tl e1.tl hc14 st) ?_
    rintro _ _ ⟨v15, rfl, rfl⟩
    refine TO.s rfl rfl rfl (StepS.move rfl) ?_
    refine TO.s rfl rfl rfl (StepS.extract rfl rfl) ?_
    refine TO.s rfl rfl rfl (StepS.extract rfl rfl) ?_
    refine TO.s rfl rfl rfl (StepS.assign rfl) ?_
    refine TO.s rfl rfl rfl (StepS.assign rfl) ?_
    refine TO.code ?_
    refine TC.k ?_
    refine TC.region ?_
    refine TO.s rfl rfl rfl (StepS.move rfl) ?_
    refine TO.s rfl rfl rfl (StepS.cmp rfl rfl rfl) ?_
    refine TO.s rfl rfl rfl (StepS.move rfl) ?_
    obtain ⟨b18, hj19, hm⟩ := bind_some hm
    refine TO.mid1 4 52 (.bool b18) ?_ ?_
    · refine bcase ((r3 == 0)) (fun hb17 => ?_) (fun hb17 => ?_)
      · replace hj19 := cond_t hb17 hj19
        refine TO.sw rfl rfl rfl hb17 rfl rfl (StepS.move rfl) ?_
        refine TO.sw rfl rfl rfl hb17 rfl rfl (StepS.move rfl) ?_
        obtain ⟨r20, hc21, hj19⟩ := bind_some hj19
        refine TO.qw rfl rfl rfl hb17 rfl rfl (StepQ.call kcallB_29_true rfl rfl (fun _ st => C29 (OwnS.rd (Ent.at 1 rfl)) (OwnS.rd (Ent.at 0 rfl)) hc21 st)) ?_
        cases hj19
        refine TO.s rfl rfl rfl (StepS.pickT rfl hb17 rfl) ?_
        exact TO.up1 4 0 rfl rfl rfl rfl
      · replace hj19 := cond_f hb17 hj19
        cases hj19
        refine TO.skip rfl rfl rfl (skipF hb17) rfl rfl ?_
        refine TO.skip rfl rfl rfl (skipF hb17) rfl rfl ?_
        refine TO.skip rfl rfl rfl (skipF hb17) rfl rfl ?_
        refine TO.s rfl rfl rfl (StepS.pickF rfl hb17 rfl) ?_
        exact TO.up1 4 0 rfl rfl rfl rfl
    refine TO.s rfl rfl rfl (StepS.move rfl) ?_
    refine TO.mid1 4 57 (.bool (b18 && (r2 == r13))) ?_ ?_
    · refine bcase (b18) (fun hb22 => ?_) (fun hb22 => ?_)
      · refine TO.sw rfl rfl rfl hb22 rfl rfl (StepS.move rfl) ?_
        refine TO.sw rfl rfl rfl hb22 rfl rfl (StepS.move rfl) ?_
        refine TO.sw rfl rfl rfl hb22 rfl rfl (StepS.cmpU rfl rfl rfl) ?_
        refine TO.s rfl rfl rfl (StepS.pickT rfl hb22 rfl) ?_
        exact TO.up1 4 0 rfl rfl (by rw [hb22]; rfl) rfl
      · refine TO.skip rfl rfl rfl (skipF hb22) rfl rfl ?_
        refine TO.skip rfl rfl rfl (skipF hb22) rfl rfl ?_
        refine TO.skip rfl rfl rfl (skipF hb22) rfl rfl ?_
        refine TO.s rfl rfl rfl (StepS.pickF rfl hb22 rfl) ?_
        exact TO.up1 4 0 rfl rfl (by rw [hb22]; rfl) rfl
    refine TO.s rfl rfl rfl (StepS.assign rfl) ?_
    refine TO.code ?_
    cases hm
    refine TC.ret fun a w e s => ?_
    refine FRet.mk1 (P := Try.prog) (fn := Try.f13) (t := 6) e rfl rfl ?_
    exact ⟨rfl, s.mono fun _ => Sat.dropN 2⟩
end Go.Proofs.Ytdjmlbjkendobaa
