/-
  The walks: each Go function returns what its model says. Written by a program (gen.py).
-/
import Derived.Test.YtmfidlalejdikaaProg
import Derived.KernelRfl
import Derived.Test.YtmfidlalejdikaaAM
namespace Go.Proofs.Ytmfidlalejdikaa
open Go Go.Bk
set_option linter.unusedVariables false
set_option linter.unnecessarySimpa false
theorem ksliceB_22_58_3_true : sliceB Try.prog 22 58 3 = true := by kernel_rfl
theorem kaggB_58_3_true : aggB Try.prog 58 3 = true := by kernel_rfl
theorem kinfo_58_bind_zero_some_agg_I_0_I_0_I_0 : (Try.prog.info? 58).bind (·.zero) = some (.agg #[I 0, I 0, I 0]) := by kernel_rfl
theorem ksizeB_58_3_true : sizeB Try.prog 58 3 = true := by kernel_rfl
theorem kfieldB_58_0_0_true : fieldB Try.prog 58 0 0 = true := by kernel_rfl
theorem kscalB_3_true : scalB Try.prog 3 = true := by kernel_rfl
theorem kfieldB_58_1_1_true : fieldB Try.prog 58 1 1 = true := by kernel_rfl
theorem kfieldB_58_2_2_true : fieldB Try.prog 58 2 2 = true := by kernel_rfl
theorem kmapB_59_3_3_true : mapB Try.prog 59 3 3 = true := by kernel_rfl
theorem kelemB_61_60_1_4_true : elemB Try.prog 61 60 1 4 = true := by kernel_rfl
theorem kinfo_60_bind_zero_some_U_0 : (Try.prog.info? 60).bind (·.zero) = some (U 0) := by kernel_rfl
theorem kunderlying_3_some_int_i64 : Try.prog.underlying 3 = some (.int .i64) := by kernel_rfl
theorem ksliceB_61_60_1_true : sliceB Try.prog 61 60 1 = true := by kernel_rfl
theorem kscalB_60_true : scalB Try.prog 60 = true := by kernel_rfl
theorem ksizeB_60_1_true : sizeB Try.prog 60 1 = true := by kernel_rfl
theorem kfollows_mixedOrders_true : Try.prog.follows .mixedOrders = true := by kernel_rfl
theorem kmapGB_78_3_60_true : mapGB Try.prog 78 3 60 = true := by kernel_rfl
theorem kcallB_15_true : callB Try.prog 15 = true := by kernel_rfl
theorem kcallB_40_true : callB Try.prog 40 = true := by kernel_rfl
theorem kelemB_34_3_1_8_true : elemB Try.prog 34 3 1 8 = true := by kernel_rfl
theorem kinfo_3_bind_zero_some_I_0 : (Try.prog.info? 3).bind (·.zero) = some (I 0) := by kernel_rfl
theorem ksliceB_34_3_1_true : sliceB Try.prog 34 3 1 = true := by kernel_rfl
theorem ksizeB_3_1_true : sizeB Try.prog 3 1 = true := by kernel_rfl
theorem kelemB_29_28_1_24_true : elemB Try.prog 29 28 1 24 = true := by kernel_rfl
theorem kinfo_28_bind_zero_some_slice_none_0_0 : (Try.prog.info? 28).bind (·.zero) = some (.slice none 0 0) := by kernel_rfl
theorem kelemB_28_4_1_1_true : elemB Try.prog 28 4 1 1 = true := by kernel_rfl
theorem kinfo_4_bind_zero_some_bool_false : (Try.prog.info? 4).bind (·.zero) = some (.bool false) := by kernel_rfl
theorem ksliceB_29_28_1_true : sliceB Try.prog 29 28 1 = true := by kernel_rfl
theorem ksizeB_28_1_true : sizeB Try.prog 28 1 = true := by kernel_rfl
theorem kscalB_28_true : scalB Try.prog 28 = true := by kernel_rfl
theorem ksliceB_28_4_1_true : sliceB Try.prog 28 4 1 = true := by kernel_rfl
theorem ksizeB_4_1_true : sizeB Try.prog 4 1 = true := by kernel_rfl
theorem kscalB_4_true : scalB Try.prog 4 = true := by kernel_rfl
theorem kcallB_18_true : callB Try.prog 18 = true := by kernel_rfl
theorem kcallB_26_true : callB Try.prog 26 = true := by kernel_rfl
theorem kcallB_16_true : callB Try.prog 16 = true := by kernel_rfl
theorem kcallB_27_true : callB Try.prog 27 = true := by kernel_rfl
theorem kcallB_24_true : callB Try.prog 24 = true := by kernel_rfl

set_option maxRecDepth 100000 in
theorem C15 {B : World} {L : List HP} {a0 : Int} {a1 : List (Int × Int × Int)} {h1 : Value} {r0 : Int} (e1 : Ent L (Rd 3 h1 (a1.map cTiii))) (hm : F15 a0 a1 = some r0) {w : World} (st : St B L w) : Calls Try.prog 15 #[I a0, h1] w (fun e w' => (e = .returned (I r0) ∧ St B (L) w')) := by
  refine calls_of (N := 73) (L := L) (args := [I a0, h1]) Try.func15 rfl rfl rfl ?_ st
  dsimp only [F15] at hm
  refine TC.k ?_
  refine TC.region ?_
  refine TO.s rfl rfl rfl (StepS.assign rfl) ?_
  refine TO.code ?_
  refine TC.k ?_
  refine TC.k ?_
  refine TC.region ?_
  refine TO.s rfl rfl rfl (StepS.move rfl) ?_
  refine TO.s rfl rfl rfl (StepS.cmp rfl rfl rfl) ?_
  refine TO.s rfl rfl rfl (StepS.move rfl) ?_
  refine TO.mid1 3 13 (.bool ((decide (a0 < 1)) || (decide (a0 > 6)))) ?_ ?_
  · refine bcase ((decide (a0 < 1))) (fun hb1 => ?_) (fun hb1 => ?_)
    · refine TO.skip rfl rfl rfl (skipT hb1) rfl rfl ?_
      refine TO.skip rfl rfl rfl (skipT hb1) rfl rfl ?_
      refine TO.s rfl rfl rfl (StepS.pickT rfl hb1 rfl) ?_
      exact TO.up1 3 0 rfl rfl (by rw [hb1]; rfl) rfl
    · refine TO.sw rfl rfl rfl hb1 rfl rfl (StepS.move rfl) ?_
      refine TO.sw rfl rfl rfl hb1 rfl rfl (StepS.cmp rfl rfl rfl) ?_
      refine TO.s rfl rfl rfl (StepS.pickF rfl hb1 rfl) ?_
      exact TO.up1 3 0 rfl rfl (by rw [hb1]; rfl) rfl
  refine TO.s rfl rfl rfl (StepS.move rfl) ?_
  refine TO.mid1 4 18 (.bool (((decide (a0 < 1)) || (decide (a0 > 6))) || (decide ((a1.length : Int) > 30)))) ?_ ?_
  · refine bcase (((decide (a0 < 1)) || (decide (a0 > 6)))) (fun hb2 => ?_) (fun hb2 => ?_)
    · refine TO.skip rfl rfl rfl (skipT hb2) rfl rfl ?_
      refine TO.skip rfl rfl rfl (skipT hb2) rfl rfl ?_
      refine TO.skip rfl rfl rfl (skipT hb2) rfl rfl ?_
      refine TO.s rfl rfl rfl (StepS.pickT rfl hb2 rfl) ?_
      exact TO.up1 4 0 rfl rfl (by rw [hb2]; rfl) rfl
    · refine TO.sw rfl rfl rfl hb2 rfl rfl (StepS.move rfl) ?_
      refine TO.sw rfl rfl rfl hb2 rfl rfl (StepS.lenm rfl e1 ksliceB_22_58_3_true rfl) ?_
      refine TO.sw rfl rfl rfl hb2 rfl rfl (StepS.cmp rfl rfl rfl) ?_
      refine TO.s rfl rfl rfl (StepS.pickF rfl hb2 rfl) ?_
      exact TO.up1 4 0 rfl rfl (by rw [hb2]; rfl) rfl
  refine TO.code ?_
  refine TC.cond rfl (fun hc3 => ?_) (fun hc3 => ?_)
  · replace hm := cond_t hc3 hm
    refine TC.k ?_
    refine TC.region ?_
    refine TO.s rfl rfl rfl (StepS.assign rfl) ?_
    refine TO.code ?_
    cases hm
    refine TC.ret fun a w e s => ?_
    refine FRet.mk1 (P := Try.prog) (fn := Try.f15) (t := 4) e rfl rfl ?_
    exact ⟨rfl, s.mono fun _ => Sat.dropN 0⟩
  · replace hm := cond_f hc3 hm
    refine TC.skipk ?_
    refine TC.k ?_
    refine TC.region ?_
    refine TO.mkM rfl fun r4 => ?_
    refine TO.s rfl rfl rfl (StepS.assign rfl) ?_
    refine TO.code ?_
    refine TC.k ?_
    refine TC.k ?_
    refine TC.region ?_
    refine TO.s rfl rfl rfl (StepS.move rfl) ?_
    refine TO.s rfl rfl rfl (StepS.lenm rfl e1.tl ksliceB_22_58_3_true rfl) ?_
    refine TO.s rfl rfl rfl (StepS.move rfl) ?_
    refine TO.code ?_
    obtain ⟨o11, hw12, hm⟩ := bind_some hm
    refine TC.loop hw12 (fun (y6, x7) => fun a w => Mid 73 B [(0, I a0), (5, .map (some r4)), (20, h1), (21, I (a1.length : Int)), (22, I x7)] (Mp r4 (y6) :: L) a w) (fun y10 => fun a w => Mid 73 B [] (Mp r4 (y10) :: L) a w) (fun r0 => FRet Try.prog Try.f15 (fun e w' => (e = .returned (I r0) ∧ St B (L) w'))) ?_ ?_ ?_ ?_
    · rintro ⟨y6, x7⟩ o11r hb13 a w ⟨he, hs⟩
      dsimp only [F15_L0] at hb13
      refine TC.use ?_ he hs
      refine TC.k ?_
      refine TC.region ?_
      refine TO.s rfl rfl rfl (StepS.cmp rfl rfl rfl) ?_
      refine TO.code ?_
      refine TC.k ?_
      refine TC.cond rfl (fun hc14 => ?_) (fun hc14 => ?_)
      · replace hb13 := cond_t hc14 hb13
        refine TC.skipk ?_
        refine TC.k ?_
        refine TC.block ?_
        refine TC.k ?_
        refine TC.region ?_
        obtain ⟨x15, hx16, hb13⟩ := bind_some hb13
        refine TO.s rfl rfl rfl (StepS.idx rfl rfl e1.tl ksliceB_22_58_3_true (idx_spec hx16).1 (idxm_lt hx16)) ?_
        refine TO.s rfl rfl rfl (StepS.ldE rfl e1.tl kaggB_58_3_true rfl (idxm hx16)) ?_
        refine TO.alloc kinfo_58_bind_zero_some_agg_I_0_I_0_I_0 rfl rfl fun b17 => ?_
        refine TO.stB (us := [I x15.1, I x15.2.1, I x15.2.2]) 0 [I x15.1, I x15.2.1, I x15.2.2] rfl rfl rfl ksizeB_58_3_true rfl rfl rfl (by simp [Value.oneCell']) rfl ?_
        refine TO.code ?_
        refine TC.k ?_
        refine TC.block ?_
        refine TC.k ?_
        refine TC.region ?_
        refine TO.s rfl rfl rfl (StepS.fld rfl kfieldB_58_0_0_true) ?_
        refine TO.s rfl rfl rfl (StepS.ldB rfl (Ent.at 0 rfl) kscalB_3_true rfl) ?_
        refine TO.s rfl rfl rfl (StepS.cmp rfl rfl rfl) ?_
        refine TO.s rfl rfl rfl (StepS.move rfl) ?_
        refine TO.mid1 5 35 (.bool ((decide (x15.1 < 0)) || (decide (x15.1 ≥ a0)))) ?_ ?_
        · refine bcase ((decide (x15.1 < 0))) (fun hb18 => ?_) (fun hb18 => ?_)
          · refine TO.skip rfl rfl rfl (skipT hb18) rfl rfl ?_
            refine TO.skip rfl rfl rfl (skipT hb18) rfl rfl ?_
            refine TO.skip rfl rfl rfl (skipT hb18) rfl rfl ?_
            refine TO.skip rfl rfl rfl (skipT hb18) rfl rfl ?_
            refine TO.s rfl rfl rfl (StepS.pickT rfl hb18 rfl) ?_
            exact TO.up1 5 0 rfl rfl (by rw [hb18]; rfl) rfl
          · refine TO.sw rfl rfl rfl hb18 rfl rfl (StepS.fld rfl kfieldB_58_0_0_true) ?_
            refine TO.sw rfl rfl rfl hb18 rfl rfl (StepS.ldB rfl (Ent.at 0 rfl) kscalB_3_true rfl) ?_
            refine TO.sw rfl rfl rfl hb18 rfl rfl (StepS.move rfl) ?_
            refine TO.sw rfl rfl rfl hb18 rfl rfl (StepS.cmp rfl rfl rfl) ?_
            refine TO.s rfl rfl rfl (StepS.pickF rfl hb18 rfl) ?_
            exact TO.up1 5 0 rfl rfl (by rw [hb18]; rfl) rfl
        refine TO.s rfl rfl rfl (StepS.assign rfl) ?_
        refine TO.code ?_
        refine TC.cond rfl (fun hc19 => ?_) (fun hc19 => ?_)
        · replace hb13 := cond_t hc19 hb13
          refine TC.k ?_
          refine TC.region ?_
          refine TO.s rfl rfl rfl (StepS.assign rfl) ?_
          refine TO.code ?_
          cases hb13
          refine TC.ret fun a w e s => ?_
          refine FRet.mk1 (P := Try.prog) (fn := Try.f15) (t := 4) e rfl rfl ?_
          exact ⟨rfl, s.mono fun _ => Sat.dropN 2⟩
        · replace hb13 := cond_f hc19 hb13
          refine TC.k ?_
          refine TC.region ?_
          refine TO.s rfl rfl rfl (StepS.fld rfl kfieldB_58_1_1_true) ?_
          refine TO.s rfl rfl rfl (StepS.ldB rfl (Ent.at 0 rfl) kscalB_3_true rfl) ?_
          refine TO.s rfl rfl rfl (StepS.cmp rfl rfl rfl) ?_
          refine TO.s rfl rfl rfl (StepS.move rfl) ?_
          refine TO.mid1 4 44 (.bool ((decide (x15.2.1 < 1)) || (decide (x15.2.1 > 3)))) ?_ ?_
          · refine bcase ((decide (x15.2.1 < 1))) (fun hb20 => ?_) (fun hb20 => ?_)
            · refine TO.skip rfl rfl rfl (skipT hb20) rfl rfl ?_
              refine TO.skip rfl rfl rfl (skipT hb20) rfl rfl ?_
              refine TO.skip rfl rfl rfl (skipT hb20) rfl rfl ?_
              refine TO.s rfl rfl rfl (StepS.pickT rfl hb20 rfl) ?_
              exact TO.up1 4 0 rfl rfl (by rw [hb20]; rfl) rfl
            · refine TO.sw rfl rfl rfl hb20 rfl rfl (StepS.fld rfl kfieldB_58_1_1_true) ?_
              refine TO.sw rfl rfl rfl hb20 rfl rfl (StepS.ldB rfl (Ent.at 0 rfl) kscalB_3_true rfl) ?_
              refine TO.sw rfl rfl rfl hb20 rfl rfl (StepS.cmp rfl rfl rfl) ?_
              refine TO.s rfl rfl rfl (StepS.pickF rfl hb20 rfl) ?_
              exact TO.up1 4 0 rfl rfl (by rw [hb20]; rfl) rfl
          refine TO.s rfl rfl rfl (StepS.assign rfl) ?_
          refine TO.code ?_
          refine TC.cond rfl (fun hc21 => ?_) (fun hc21 => ?_)
          · replace hb13 := cond_t hc21 hb13
            refine TC.k ?_
            refine TC.region ?_
            refine TO.s rfl rfl rfl (StepS.assign rfl) ?_
            refine TO.code ?_
            cases hb13
            refine TC.ret fun a w e s => ?_
            refine FRet.mk1 (P := Try.prog) (fn := Try.f15) (t := 4) e rfl rfl ?_
            exact ⟨rfl, s.mono fun _ => Sat.dropN 2⟩
          · replace hb13 := cond_f hc21 hb13
            refine TC.k ?_
            refine TC.region ?_
            refine TO.s rfl rfl rfl (StepS.fld rfl kfieldB_58_1_1_true) ?_
            refine TO.s rfl rfl rfl (StepS.ldB rfl (Ent.at 0 rfl) kscalB_3_true rfl) ?_
            refine TO.s rfl rfl rfl (StepS.cmp rfl rfl rfl) ?_
            refine TO.s rfl rfl rfl (StepS.assign rfl) ?_
            refine TO.code ?_
            refine TC.cond rfl (fun hc22 => ?_) (fun hc22 => ?_)
            · replace hb13 := cond_t hc22 hb13
              refine TC.exitk rfl ?_
              refine TC.region ?_
              refine TO.s rfl rfl rfl (StepS.ari rfl rfl rfl) ?_
              refine TO.s rfl rfl rfl (StepS.move rfl) ?_
              cases hb13
              refine TO.nil fun a w e s => ?_
              exact ⟨e.sub (lk_of_allIn ⟨rfl, rfl, rfl, rfl, rfl, trivial⟩), s.mono fun _ => Sat.dropN 1⟩
            · replace hb13 := cond_f hc22 hb13
              refine TC.k ?_
              refine TC.region ?_
              refine TO.s rfl rfl rfl (StepS.fld rfl kfieldB_58_2_2_true) ?_
              refine TO.s rfl rfl rfl (StepS.ldB rfl (Ent.at 0 rfl) kscalB_3_true rfl) ?_
              refine TO.s rfl rfl rfl (StepS.cmp rfl rfl rfl) ?_
              refine TO.s rfl rfl rfl (StepS.move rfl) ?_
              refine TO.mid1 4 57 (.bool ((decide (x15.2.2 < 0)) || (decide (x15.2.2 > 20)))) ?_ ?_
              · refine bcase ((decide (x15.2.2 < 0))) (fun hb23 => ?_) (fun hb23 => ?_)
                · refine TO.skip rfl rfl rfl (skipT hb23) rfl rfl ?_
                  refine TO.skip rfl rfl rfl (skipT hb23) rfl rfl ?_
                  refine TO.skip rfl rfl rfl (skipT hb23) rfl rfl ?_
                  refine TO.s rfl rfl rfl (StepS.pickT rfl hb23 rfl) ?_
                  exact TO.up1 4 0 rfl rfl (by rw [hb23]; rfl) rfl
                · refine TO.sw rfl rfl rfl hb23 rfl rfl (StepS.fld rfl kfieldB_58_2_2_true) ?_
                  refine TO.sw rfl rfl rfl hb23 rfl rfl (StepS.ldB rfl (Ent.at 0 rfl) kscalB_3_true rfl) ?_
                  refine TO.sw rfl rfl rfl hb23 rfl rfl (StepS.cmp rfl rfl rfl) ?_
                  refine TO.s rfl rfl rfl (StepS.pickF rfl hb23 rfl) ?_
                  exact TO.up1 4 0 rfl rfl (by rw [hb23]; rfl) rfl
              refine TO.s rfl rfl rfl (StepS.assign rfl) ?_
              refine TO.code ?_
              refine TC.cond rfl (fun hc24 => ?_) (fun hc24 => ?_)
              · replace hb13 := cond_t hc24 hb13
                refine TC.k ?_
                refine TC.region ?_
                refine TO.s rfl rfl rfl (StepS.assign rfl) ?_
                refine TO.code ?_
                cases hb13
                refine TC.ret fun a w e s => ?_
                refine FRet.mk1 (P := Try.prog) (fn := Try.f15) (t := 4) e rfl rfl ?_
                exact ⟨rfl, s.mono fun _ => Sat.dropN 2⟩
              · replace hb13 := cond_f hc24 hb13
                refine TC.k ?_
                refine TC.region ?_
                refine TO.s rfl rfl rfl (StepS.move rfl) ?_
                refine TO.s rfl rfl rfl (StepS.fld rfl kfieldB_58_2_2_true) ?_
                refine TO.s rfl rfl rfl (StepS.ldB rfl (Ent.at 0 rfl) kscalB_3_true rfl) ?_
                refine TO.s rfl rfl rfl (StepS.look kmapB_59_3_3_true rfl (Ent.at 1 rfl) rfl) ?_
                refine TO.s rfl rfl rfl (StepS.fld rfl kfieldB_58_1_1_true) ?_
                refine TO.s rfl rfl rfl (StepS.ldB rfl (Ent.at 0 rfl) kscalB_3_true rfl) ?_
                refine TO.s rfl rfl rfl (StepS.ari rfl rfl rfl) ?_
                refine TO.s rfl rfl rfl (StepS.cmp rfl rfl rfl) ?_
                refine TO.s rfl rfl rfl (StepS.assign rfl) ?_
                refine TO.code ?_
                refine TC.cond rfl (fun hc25 => ?_) (fun hc25 => ?_)
                · replace hb13 := cond_t hc25 hb13
                  refine TC.k ?_
                  refine TC.region ?_
                  refine TO.s rfl rfl rfl (StepS.assign rfl) ?_
                  refine TO.code ?_
                  cases hb13
                  refine TC.ret fun a w e s => ?_
                  refine FRet.mk1 (P := Try.prog) (fn := Try.f15) (t := 4) e rfl rfl ?_
                  exact ⟨rfl, s.mono fun _ => Sat.dropN 2⟩
                · replace hb13 := cond_f hc25 hb13
                  refine TC.skipk ?_
                  refine TC.region ?_
                  refine TO.s rfl rfl rfl (StepS.move rfl) ?_
                  refine TO.s rfl rfl rfl (StepS.fld rfl kfieldB_58_2_2_true) ?_
                  refine TO.s rfl rfl rfl (StepS.ldB rfl (Ent.at 0 rfl) kscalB_3_true rfl) ?_
                  refine TO.s rfl rfl rfl (StepS.look kmapB_59_3_3_true rfl (Ent.at 1 rfl) rfl) ?_
                  refine TO.s rfl rfl rfl (StepS.ari rfl rfl rfl) ?_
                  refine TO.mset 1 kmapB_59_3_3_true rfl rfl rfl rfl ?_
                  refine TO.code ?_
                  refine TC.region ?_
                  refine TO.s rfl rfl rfl (StepS.ari rfl rfl rfl) ?_
                  refine TO.s rfl rfl rfl (StepS.move rfl) ?_
                  cases hb13
                  refine TO.nil fun a w e s => ?_
                  exact ⟨e.sub (lk_of_allIn ⟨rfl, rfl, rfl, rfl, rfl, trivial⟩), s.mono fun _ => Sat.dropN 1⟩
      · replace hb13 := cond_f hc14 hb13
        cases hb13
        refine TC.exit rfl fun a w e s => ?_
        exact ⟨e.sub (lk_of_allIn trivial), s⟩
    · exact fun a w e s => ⟨e.sub (lk_of_allIn ⟨rfl, rfl, rfl, rfl, rfl, trivial⟩), s⟩
    · rintro y10 rfl a w ⟨he, hs⟩
      dsimp only [Ctl.on] at hm
      refine TC.use ?_ he hs
      refine TC.k ?_
      refine TC.region ?_
      refine TO.s rfl rfl rfl (StepS.assign rfl) ?_
      refine TO.code ?_
      cases hm
      refine TC.ret fun a w e s => ?_
      refine FRet.mk1 (P := Try.prog) (fn := Try.f15) (t := 4) e rfl rfl ?_
      exact ⟨rfl, s.mono fun _ => Sat.dropN 1⟩
    · rintro r rfl
      cases hm
      exact fun a w h => h

set_option maxRecDepth 100000 in
theorem C40 {B : World} {L : List HP} {a0 : Int} {a1 : List (Int × Int × Int)} {h1 : Value} {r0 : List (BitVec 32)} (e1 : Ent L (Rd 3 h1 (a1.map cTiii))) (hm : F40 a0 a1 = some r0) {w : World} (st : St B L w) : Calls Try.prog 40 #[I a0, h1] w (fun e w' => ∃ v M, e = .returned v ∧ (∃ (qv1 : Value), v = qv1 ∧ M = (OwnS 60 1 qv1 (r0.map cU) :: L)) ∧ St B M w') := by
  refine calls_of (N := 68) (L := L) (args := [I a0, h1]) Try.func40 rfl rfl rfl ?_ st
  dsimp only [F40] at hm
  refine TC.k ?_
  refine TC.region ?_
  refine TO.s rfl rfl rfl (StepS.assign rfl) ?_
  refine TO.code ?_
  refine TC.k ?_
  refine TC.region ?_
  refine TO.s rfl rfl rfl (StepS.move rfl) ?_
  obtain ⟨y2, hk3, hm⟩ := bind_some hm
  refine TO.mkS (f := cU) (za := 0) kelemB_61_60_1_4_true kinfo_60_bind_zero_some_U_0 rfl (by decide) rfl rfl hk3 rfl fun v4 => ?_
  refine TO.s rfl rfl rfl (StepS.assign rfl) ?_
  refine TO.code ?_
  refine TC.k ?_
  refine TC.region ?_
  refine TO.mkMG (kf := (fun k : Int => I k)) (vf := (fun x : BitVec 32 => U x)) rfl fun r6 => ?_
  refine TO.s rfl rfl rfl (StepS.assign rfl) ?_
  refine TO.code ?_
  refine TC.k ?_
  refine TC.region ?_
  refine TO.s rfl rfl rfl (StepS.move rfl) ?_
  refine TO.s rfl rfl rfl (StepS.lenm rfl e1.tl.tl ksliceB_22_58_3_true rfl) ?_
  obtain ⟨y8, hk9, hm⟩ := bind_some hm
  refine TO.mkS (f := cU) (za := 0) kelemB_61_60_1_4_true kinfo_60_bind_zero_some_U_0 rfl (by decide) rfl rfl hk9 rfl fun v10 => ?_
  refine TO.s rfl rfl rfl (StepS.assign rfl) ?_
  refine TO.code ?_
  refine TC.k ?_
  refine TC.k ?_
  refine TC.region ?_
  refine TO.s rfl rfl rfl (StepS.move rfl) ?_
  refine TO.s rfl rfl rfl (StepS.lenm rfl e1.tl.tl.tl ksliceB_22_58_3_true rfl) ?_
  refine TO.s rfl rfl rfl (StepS.move rfl) ?_
  refine TO.code ?_
  obtain ⟨o29, hw30, hm⟩ := bind_some hm
  refine TC.loop hw30 (fun (y12, y14, y15, x17) => fun a w => ∃ v13 : Value, ∃ v16 : Value, Mid 68 B [(5, v16), (6, .map (some r6)), (7, v13), (16, h1), (17, I (a1.length : Int)), (18, I x17)] (OwnS 60 1 v13 (y12.map cU) :: MpG (fun k : Int => I k) (fun x : BitVec 32 => U x) r6 (y14) :: OwnS 60 1 v16 (y15.map cU) :: L) a w) (fun (y24, y26, y27) => fun a w => ∃ v25 : Value, ∃ v28 : Value, Mid 68 B [(7, v25)] (OwnS 60 1 v25 (y24.map cU) :: MpG (fun k : Int => I k) (fun x : BitVec 32 => U x) r6 (y26) :: OwnS 60 1 v28 (y27.map cU) :: L) a w) (fun (_ : Unit) _ _ => False) ?_ ?_ ?_ ?_
  · rintro ⟨y12, y14, y15, x17⟩ o29r hb31 a w ⟨v13, v16, he, hs⟩
    dsimp only [F40_L0] at hb31
    refine TC.use ?_ he hs
    refine TC.k ?_
    refine TC.region ?_
    refine TO.s rfl rfl rfl (StepS.cmp rfl rfl rfl) ?_
    refine TO.code ?_
    refine TC.k ?_
    refine TC.cond rfl (fun hc32 => ?_) (fun hc32 => ?_)
    · replace hb31 := cond_t hc32 hb31
      refine TC.skipk ?_
      refine TC.k ?_
      obtain ⟨⟨y33, y35, y36⟩, hj38, hb31⟩ := bind_some hb31
      refine TC.cutM (fun a w => ∃ v34 : Value, ∃ v37 : Value, Mid 68 B [(5, v37), (6, .map (some r6)), (7, v34), (16, h1), (17, I (a1.length : Int)), (18, I x17)] (OwnS 60 1 v34 (y33.map cU) :: MpG (fun k : Int => I k) (fun x : BitVec 32 => U x) r6 (y35) :: OwnS 60 1 v37 (y36.map cU) :: L) a w) ?_ ?_
      · refine TC.block ?_
        refine TC.k ?_
        refine TC.region ?_
        refine TO.s rfl rfl rfl (StepS.move rfl) ?_
        obtain ⟨x39, hx40, hj38⟩ := bind_some hj38
        refine TO.s rfl rfl rfl (StepS.idx rfl rfl e1.tl.tl.tl ksliceB_22_58_3_true (idx_spec hx40).1 (idxm_lt hx40)) ?_
        refine TO.s rfl rfl rfl (StepS.ldE rfl e1.tl.tl.tl kaggB_58_3_true rfl (idxm hx40)) ?_
        refine TO.alloc kinfo_58_bind_zero_some_agg_I_0_I_0_I_0 rfl rfl fun b41 => ?_
        refine TO.s rfl rfl rfl (StepS.assign rfl) ?_
        refine TO.stB (us := [I x39.1, I x39.2.1, I x39.2.2]) 0 [I x39.1, I x39.2.1, I x39.2.2] rfl rfl rfl ksizeB_58_3_true rfl rfl rfl (by simp [Value.oneCell']) rfl ?_
        refine TO.code ?_
        refine TC.k ?_
        refine TC.region ?_
        refine TO.s rfl rfl rfl (StepS.move rfl) ?_
        refine TO.s rfl rfl rfl (StepS.move rfl) ?_
        refine TO.s rfl rfl rfl (StepS.move rfl) ?_
        refine TO.s rfl rfl rfl (StepS.fld rfl kfieldB_58_0_0_true) ?_
        refine TO.s rfl rfl rfl (StepS.ldB rfl (Ent.at 0 rfl) kscalB_3_true rfl) ?_
        obtain ⟨x42, hx43, hj38⟩ := bind_some hj38
        refine TO.s rfl rfl rfl (StepS.idx rfl rfl (OwnS.rd (Ent.at 3 rfl)) ksliceB_61_60_1_true (idx_spec hx43).1 (idxm_lt hx43)) ?_
        refine TO.s rfl rfl rfl (StepS.ld0 rfl (OwnS.rd (Ent.at 3 rfl)) kscalB_60_true rfl (idxm hx43) rfl) ?_
        obtain ⟨x44, hx45, hj38⟩ := bind_some hj38
        refine TO.s rfl rfl rfl (StepS.idx rfl rfl (OwnS.rd (Ent.at 1 rfl)) ksliceB_61_60_1_true (idx_spec hx45).1 (idxm_lt hx45)) ?_
        refine TO.stO (i := x17.toNat) (off := 0) (us := [U x42]) 1 x42 rfl rfl rfl ksizeB_60_1_true rfl rfl rfl (idx_spec hx45).2 rfl (by simp [Value.oneCell']) rfl ?_
        refine TO.code ?_
        refine TC.k ?_
        refine TC.k ?_
        refine TC.region ?_
        refine TO.s rfl rfl rfl (StepS.fld rfl kfieldB_58_1_1_true) ?_
        refine TO.s rfl rfl rfl (StepS.ldB rfl (Ent.at 0 rfl) kscalB_3_true rfl) ?_
        refine TO.s rfl rfl rfl (StepS.cmp rfl rfl rfl) ?_
        refine TO.code ?_
        obtain ⟨y46, hj48, hj38⟩ := bind_some hj38
        refine TC.cutM (fun a w => ∃ v47 : Value, Mid 68 B [(5, v16), (6, .map (some r6)), (7, v47), (8, I x17), (9, .pointer (some ⟨b41, 0, none⟩)), (16, h1), (17, I (a1.length : Int)), (18, I x17)] (Bx b41 58 [I x39.1, I x39.2.1, I x39.2.2] :: OwnS 60 1 v47 (y46.map cU) :: MpG (fun k : Int => I k) (fun x : BitVec 32 => U x) r6 (y14) :: OwnS 60 1 v16 (y15.map cU) :: L) a w) ?_ ?_
        · refine TC.cond rfl (fun hc49 => ?_) (fun hc49 => ?_)
          · replace hj48 := cond_t hc49 hj48
            refine TC.region_tail 10 kfollows_mixedOrders_true (by kernel_rfl) ?_
            refine TS.s rfl rfl rfl (StepS.move rfl) ?_
            refine TS.s rfl rfl rfl (StepS.move rfl) ?_
            obtain ⟨x50, hx51, hj48⟩ := bind_some hj48
            refine TS.s rfl rfl rfl (StepS.idx rfl rfl (OwnS.rd (Ent.at 1 rfl)) ksliceB_61_60_1_true (idx_spec hx51).1 (idxm_lt hx51)) ?_
            refine TS.s rfl rfl rfl (StepS.ld0 rfl (OwnS.rd (Ent.at 1 rfl)) kscalB_60_true rfl (idxm hx51) rfl) ?_
            refine TS.s rfl rfl rfl (StepS.move rfl) ?_
            refine TS.s rfl rfl rfl (StepS.fld rfl kfieldB_58_2_2_true) ?_
            refine TS.s rfl rfl rfl (StepS.ldB rfl (Ent.at 0 rfl) kscalB_3_true rfl) ?_
            refine TS.s rfl rfl rfl (StepS.lookG (k := x39.2.2) (z := 0) kmapGB_78_3_60_true (KeyOk.int kunderlying_3_some_int_i64) kinfo_60_bind_zero_some_U_0 rfl (Ent.at 2 rfl) rfl rfl) ?_
            refine TS.s rfl rfl rfl (StepS.bitU rfl rfl rfl) ?_
            obtain ⟨x52, hx53, hj48⟩ := bind_some hj48
            refine TS.s rfl rfl rfl (StepS.idx rfl rfl (OwnS.rd (Ent.at 1 rfl)) ksliceB_61_60_1_true (idx_spec hx53).1 (idxm_lt hx53)) ?_
            refine TS.nil ?_
            refine TO.at ?_
            refine TO.stO (i := x17.toNat) (off := 0) (us := [U (x50 ||| (mgetG 0 y14 x39.2.2))]) 1 (x50 ||| (mgetG 0 y14 x39.2.2)) rfl rfl rfl ksizeB_60_1_true rfl rfl rfl (idx_spec hx53).2 rfl (by simp [Value.oneCell']) rfl ?_
            cases hj48
            refine TO.nil fun a w e s => ?_
            exact ⟨v13, e.sub (lk_of_allIn ⟨rfl, rfl, rfl, rfl, rfl, rfl, rfl, rfl, trivial⟩), s⟩
          · replace hj48 := cond_f hc49 hj48
            cases hj48
            refine TC.skip fun a w e s => ?_
            exact ⟨v13, e.sub (lk_of_allIn ⟨rfl, rfl, rfl, rfl, rfl, rfl, rfl, rfl, trivial⟩), s⟩
        · intro a w ⟨v47, he, hs⟩
          refine TC.use ?_ he hs
          refine TC.k ?_
          refine TC.region_tail 11 kfollows_mixedOrders_true (by kernel_rfl) ?_
          refine TS.s rfl rfl rfl (StepS.move rfl) ?_
          refine TS.s rfl rfl rfl (StepS.fld rfl kfieldB_58_0_0_true) ?_
          refine TS.s rfl rfl rfl (StepS.ldB rfl (Ent.at 0 rfl) kscalB_3_true rfl) ?_
          refine TS.s rfl rfl rfl (StepS.move rfl) ?_
          refine TS.s rfl rfl rfl (StepS.move rfl) ?_
          obtain ⟨x54, hx55, hj38⟩ := bind_some hj38
          refine TS.s rfl rfl rfl (StepS.idx rfl rfl (OwnS.rd (Ent.at 1 rfl)) ksliceB_61_60_1_true (idx_spec hx55).1 (idxm_lt hx55)) ?_
          refine TS.s rfl rfl rfl (StepS.ld0 rfl (OwnS.rd (Ent.at 1 rfl)) kscalB_60_true rfl (idxm hx55) rfl) ?_
          refine TS.s rfl rfl rfl (StepS.move rfl) ?_
          obtain ⟨k56, hk57, hj38⟩ := bind_some hj38
          refine TS.s rfl rfl rfl (StepS.shlk (m := 1#32) rfl rfl hk57) ?_
          refine TS.s rfl rfl rfl (StepS.bitU rfl rfl rfl) ?_
          obtain ⟨x58, hx59, hj38⟩ := bind_some hj38
          refine TS.s rfl rfl rfl (StepS.idx rfl rfl (OwnS.rd (Ent.at 3 rfl)) ksliceB_61_60_1_true (idx_spec hx59).1 (idxm_lt hx59)) ?_
          refine TS.nil ?_
          refine TO.at ?_
          refine TO.stO (i := x39.1.toNat) (off := 0) (us := [U (x54 ||| ((1#32) <<< k56))]) 3 (x54 ||| ((1#32) <<< k56)) rfl rfl rfl ksizeB_60_1_true rfl rfl rfl (idx_spec hx59).2 rfl (by simp [Value.oneCell']) rfl ?_
          refine TO.code ?_
          refine TC.k ?_
          refine TC.region ?_
          refine TO.s rfl rfl rfl (StepS.fld rfl kfieldB_58_1_1_true) ?_
          refine TO.s rfl rfl rfl (StepS.ldB rfl (Ent.at 0 rfl) kscalB_3_true rfl) ?_
          refine TO.s rfl rfl rfl (StepS.cmp rfl rfl rfl) ?_
          refine TO.code ?_
          refine TC.cond rfl (fun hc60 => ?_) (fun hc60 => ?_)
          · replace hj38 := cond_t hc60 hj38
            refine TC.region_tail 8 kfollows_mixedOrders_true (by kernel_rfl) ?_
            refine TS.s rfl rfl rfl (StepS.move rfl) ?_
            refine TS.s rfl rfl rfl (StepS.fld rfl kfieldB_58_2_2_true) ?_
            refine TS.s rfl rfl rfl (StepS.ldB rfl (Ent.at 0 rfl) kscalB_3_true rfl) ?_
            refine TS.s rfl rfl rfl (StepS.move rfl) ?_
            refine TS.s rfl rfl rfl (StepS.fld rfl kfieldB_58_0_0_true) ?_
            refine TS.s rfl rfl rfl (StepS.ldB rfl (Ent.at 0 rfl) kscalB_3_true rfl) ?_
            obtain ⟨x61, hx62, hj38⟩ := bind_some hj38
            refine TS.s rfl rfl rfl (StepS.idx rfl rfl (OwnS.rd (Ent.at 3 rfl)) ksliceB_61_60_1_true (idx_spec hx62).1 (idxm_lt hx62)) ?_
            refine TS.s rfl rfl rfl (StepS.ld0 rfl (OwnS.rd (Ent.at 3 rfl)) kscalB_60_true rfl (idxm hx62) rfl) ?_
            refine TS.nil ?_
            refine TO.at ?_
            refine TO.msetG (k := x39.2.2) (v := x61) 2 kmapGB_78_3_60_true (KeyOk.int kunderlying_3_some_int_i64) rfl rfl rfl rfl ?_
            cases hj38
            refine TO.nil fun a w e s => ?_
            exact ⟨v47, v16, e.sub (lk_of_allIn ⟨rfl, rfl, rfl, rfl, rfl, rfl, trivial⟩), s.mono fun _ => Sat.dropN 1⟩
          · replace hj38 := cond_f hc60 hj38
            cases hj38
            refine TC.skip fun a w e s => ?_
            exact ⟨v47, v16, e.sub (lk_of_allIn ⟨rfl, rfl, rfl, rfl, rfl, rfl, trivial⟩), s.mono fun _ => Sat.dropN 1⟩
      · intro a w ⟨v34, v37, he, hs⟩
        refine TC.use ?_ he hs
        refine TC.region ?_
        refine TO.s rfl rfl rfl (StepS.ari rfl rfl rfl) ?_
        refine TO.s rfl rfl rfl (StepS.move rfl) ?_
        cases hb31
        refine TO.nil fun a w e s => ?_
        exact ⟨v34, v37, e.sub (lk_of_allIn ⟨rfl, rfl, rfl, rfl, rfl, rfl, trivial⟩), s⟩
    · replace hb31 := cond_f hc32 hb31
      cases hb31
      refine TC.exit rfl fun a w e s => ?_
      exact ⟨v13, v16, e.sub (lk_of_allIn ⟨rfl, trivial⟩), s⟩
  · exact fun a w e s => ⟨v10, v4, e.sub (lk_of_allIn ⟨rfl, rfl, rfl, rfl, rfl, rfl, trivial⟩), s⟩
  · rintro ⟨y24, y26, y27⟩ rfl a w ⟨v25, v28, he, hs⟩
    dsimp only [Ctl.on] at hm
    refine TC.use ?_ he hs
    refine TC.k ?_
    refine TC.region ?_
    refine TO.s rfl rfl rfl (StepS.move rfl) ?_
    refine TO.s rfl rfl rfl (StepS.assign rfl) ?_
    refine TO.code ?_
    cases hm
    refine TC.ret fun a w e s => ?_
    refine FRet.mk1 (P := Try.prog) (fn := Try.f40) (t := 4) e rfl rfl ?_
    refine ⟨_, _, rfl, ⟨(v25), rfl, rfl⟩, ?_⟩
    refine s.mono fun _ s => ?_
    replace s := Sat.front 0 rfl s
    replace s := Sat.erase 1 s
    replace s := Sat.erase 1 s
    exact s
  · rintro r rfl
    exact fun a w h => h.elim

set_option maxRecDepth 100000 in
theorem C26 {B : World} {L : List HP} {a0 : Int} {a1 : List (Int × Int × Int)} {h1 : Value} {r0 : List Int} {r1 : Int} (e1 : Ent L (Rd 3 h1 (a1.map cTiii))) (hm : F26 a0 a1 = some (r0, r1)) {w : World} (st : St B L w) : Calls Try.prog 26 #[I a0, h1] w (fun e w' => ∃ v M, e = .returned v ∧ (∃ (qv1 : Value), v = .tuple #[qv1, I r1] ∧ M = (OwnS 3 1 qv1 (r0.map cI) :: L)) ∧ St B M w') := by
  refine calls_of (N := 111) (L := L) (args := [I a0, h1]) Try.func26 rfl rfl rfl ?_ st
  dsimp only [F26] at hm
  refine TC.k ?_
  refine TC.region ?_
  refine TO.s rfl rfl rfl (StepS.assign rfl) ?_
  refine TO.s rfl rfl rfl (StepS.assign rfl) ?_
  refine TO.code ?_
  refine TC.k ?_
  refine TC.k ?_
  refine TC.region ?_
  refine TO.s rfl rfl rfl (StepS.move rfl) ?_
  refine TO.s rfl rfl rfl (StepS.move rfl) ?_
  obtain ⟨r2, hc3, hm⟩ := bind_some hm
  refine TO.q rfl rfl rfl (StepQ.call kcallB_15_true rfl rfl (fun _ st => C15 e1 hc3 st)) ?_
  refine TO.s rfl rfl rfl (StepS.assign rfl) ?_
  refine TO.code ?_
  refine TC.k ?_
  refine TC.region ?_
  refine TO.s rfl rfl rfl (StepS.move rfl) ?_
  refine TO.s rfl rfl rfl (StepS.cmp rfl rfl rfl) ?_
  refine TO.code ?_
  refine TC.cond rfl (fun hc4 => ?_) (fun hc4 => ?_)
  · replace hm := cond_t hc4 hm
    refine TC.k ?_
    refine TC.region ?_
    refine TO.s rfl rfl rfl (StepS.move rfl) ?_
    refine TO.s rfl rfl rfl (StepS.assign rfl) ?_
    refine TO.s rfl rfl rfl (StepS.assign rfl) ?_
    refine TO.code ?_
    cases hm
    refine TC.ret fun a w e s => ?_
    refine FRet.mk2 (P := Try.prog) (fn := Try.f26) (t := 4) (u := 5) e rfl rfl rfl ?_
    refine ⟨_, _, rfl, ⟨(.slice none 0 0), rfl, rfl⟩, ?_⟩
    refine s.mono fun _ s => ?_
    replace s := Sat.nilS (e := 3) (sz := 1) (f := cI) s
    exact s
  · replace hm := cond_f hc4 hm
    refine TC.skipk ?_
    refine TC.k ?_
    refine TC.region ?_
    refine TO.s rfl rfl rfl (StepS.move rfl) ?_
    refine TO.s rfl rfl rfl (StepS.move rfl) ?_
    obtain ⟨r5, hc6, hm⟩ := bind_some hm
    refine TO.callO kcallB_40_true rfl rfl rfl (fun _ st => C40 e1 hc6 st) ?_
    rintro v7 _ ⟨_, rfl, rfl⟩
    refine TO.s rfl rfl rfl (StepS.assign rfl) ?_
    refine TO.code ?_
    refine TC.k ?_
    refine TC.region ?_
    refine TO.s rfl rfl rfl (StepS.move rfl) ?_
    refine TO.s rfl rfl rfl (StepS.lenm rfl e1.tl ksliceB_22_58_3_true rfl) ?_
    obtain ⟨y9, hk10, hm⟩ := bind_some hm
    refine TO.mkS (f := cI) (za := 0) kelemB_34_3_1_8_true kinfo_3_bind_zero_some_I_0 rfl (by decide) rfl rfl hk10 rfl fun v11 => ?_
    refine TO.s rfl rfl rfl (StepS.assign rfl) ?_
    refine TO.code ?_
    refine TC.k ?_
    refine TC.region ?_
    refine TO.s rfl rfl rfl (StepS.assign rfl) ?_
    refine TO.code ?_
    refine TC.k ?_
    refine TC.k ?_
    refine TC.region ?_
    refine TO.s rfl rfl rfl (StepS.move rfl) ?_
    refine TO.s rfl rfl rfl (StepS.lenm rfl e1.tl.tl ksliceB_22_58_3_true rfl) ?_
    refine TO.s rfl rfl rfl (StepS.ari rfl rfl rfl) ?_
    refine TO.s rfl rfl rfl (StepS.assign rfl) ?_
    refine TO.code ?_
    obtain ⟨o24, hw25, hm⟩ := bind_some hm
    refine TC.loop hw25 (fun (y13, x15, x16) => fun a w => ∃ v14 : Value, Mid 111 B [(1, h1), (7, v7), (8, v14), (9, I x15), (10, I x16)] (OwnS 3 1 v14 (y13.map cI) :: OwnS 60 1 v7 (r5.map cU) :: L) a w) (fun (y21, x23) => fun a w => ∃ v22 : Value, Mid 111 B [(1, h1), (7, v7), (8, v22), (9, I x23)] (OwnS 3 1 v22 (y21.map cI) :: OwnS 60 1 v7 (r5.map cU) :: L) a w) (fun (_ : Unit) _ _ => False) ?_ ?_ ?_ ?_
    · rintro ⟨y13, x15, x16⟩ o24r hb26 a w ⟨v14, he, hs⟩
      dsimp only [F26_L0] at hb26
      refine TC.use ?_ he hs
      refine TC.k ?_
      refine TC.k ?_
      refine TC.region ?_
      refine TO.s rfl rfl rfl (StepS.move rfl) ?_
      refine TO.s rfl rfl rfl (StepS.cmp rfl rfl rfl) ?_
      refine TO.code ?_
      refine TC.cond rfl (fun hc27 => ?_) (fun hc27 => ?_)
      · replace hb26 := cond_t hc27 hb26
        refine TC.skipk ?_
        refine TC.k ?_
        refine TC.block ?_
        refine TC.k ?_
        refine TC.region ?_
        refine TO.s rfl rfl rfl (StepS.move rfl) ?_
        refine TO.s rfl rfl rfl (StepS.move rfl) ?_
        obtain ⟨x28, hx29, hb26⟩ := bind_some hb26
        refine TO.s rfl rfl rfl (StepS.idx rfl rfl (OwnS.rd (Ent.at 0 rfl)) ksliceB_34_3_1_true (idx_spec hx29).1 (idxm_lt hx29)) ?_
        refine TO.stO (i := x16.toNat) (off := 0) (us := [I 1]) 0 1 rfl rfl rfl ksizeB_3_1_true rfl rfl rfl (idx_spec hx29).2 rfl (by simp [Value.oneCell']) rfl ?_
        refine TO.code ?_
        refine TC.k ?_
        refine TC.k ?_
        refine TC.region ?_
        refine TO.s rfl rfl rfl (StepS.move rfl) ?_
        refine TO.s rfl rfl rfl (StepS.ari rfl rfl rfl) ?_
        refine TO.s rfl rfl rfl (StepS.assign rfl) ?_
        refine TO.code ?_
        obtain ⟨o38, hw39, hb26⟩ := bind_some hb26
        refine TC.loop hw39 (fun (y30, x32) => fun a w => ∃ v31 : Value, Mid 111 B [(1, h1), (7, v7), (8, v31), (9, I x15), (10, I x16), (11, I x32)] (OwnS 3 1 v31 (y30.map cI) :: OwnS 60 1 v7 (r5.map cU) :: L) a w) (fun y36 => fun a w => ∃ v37 : Value, Mid 111 B [(1, h1), (7, v7), (8, v37), (9, I x15), (10, I x16)] (OwnS 3 1 v37 (y36.map cI) :: OwnS 60 1 v7 (r5.map cU) :: L) a w) (fun (_ : Unit) _ _ => False) ?_ ?_ ?_ ?_
        · rintro ⟨y30, x32⟩ o38r hb40 a w ⟨v31, he, hs⟩
          dsimp only [F26_L1] at hb40
          refine TC.use ?_ he hs
          refine TC.k ?_
          refine TC.k ?_
          refine TC.region ?_
          refine TO.s rfl rfl rfl (StepS.move rfl) ?_
          refine TO.s rfl rfl rfl (StepS.move rfl) ?_
          refine TO.s rfl rfl rfl (StepS.lenm rfl e1.tl.tl ksliceB_22_58_3_true rfl) ?_
          refine TO.s rfl rfl rfl (StepS.cmp rfl rfl rfl) ?_
          refine TO.code ?_
          refine TC.cond rfl (fun hc41 => ?_) (fun hc41 => ?_)
          · replace hb40 := cond_t hc41 hb40
            refine TC.skipk ?_
            refine TC.k ?_
            obtain ⟨y42, hj44, hb40⟩ := bind_some hb40
            refine TC.cutM (fun a w => ∃ v43 : Value, Mid 111 B [(1, h1), (7, v7), (8, v43), (9, I x15), (10, I x16), (11, I x32)] (OwnS 3 1 v43 (y42.map cI) :: OwnS 60 1 v7 (r5.map cU) :: L) a w) ?_ ?_
            · refine TC.block ?_
              refine TC.k ?_
              refine TC.region ?_
              refine TO.s rfl rfl rfl (StepS.move rfl) ?_
              refine TO.s rfl rfl rfl (StepS.move rfl) ?_
              obtain ⟨x45, hx46, hj44⟩ := bind_some hj44
              refine TO.s rfl rfl rfl (StepS.idx rfl rfl (OwnS.rd (Ent.at 1 rfl)) ksliceB_61_60_1_true (idx_spec hx46).1 (idxm_lt hx46)) ?_
              refine TO.s rfl rfl rfl (StepS.ld0 rfl (OwnS.rd (Ent.at 1 rfl)) kscalB_60_true rfl (idxm hx46) rfl) ?_
              refine TO.s rfl rfl rfl (StepS.move rfl) ?_
              obtain ⟨k47, hk48, hj44⟩ := bind_some hj44
              refine TO.s rfl rfl rfl (StepS.shrk rfl rfl hk48) ?_
              refine TO.s rfl rfl rfl (StepS.bitU (n := 1#32) rfl rfl rfl) ?_
              refine TO.s rfl rfl rfl (StepS.cmpU (n := 1#32) rfl rfl rfl) ?_
              refine TO.code ?_
              refine TC.cond rfl (fun hc49 => ?_) (fun hc49 => ?_)
              · replace hj44 := cond_t hc49 hj44
                refine TC.region_tail 13 kfollows_mixedOrders_true (by kernel_rfl) ?_
                refine TS.s rfl rfl rfl (StepS.move rfl) ?_
                refine TS.s rfl rfl rfl (StepS.move rfl) ?_
                refine TS.s rfl rfl rfl (StepS.move rfl) ?_
                refine TS.s rfl rfl rfl (StepS.move rfl) ?_
                obtain ⟨x50, hx51, hj44⟩ := bind_some hj44
                refine TS.s rfl rfl rfl (StepS.idx rfl rfl (OwnS.rd (Ent.at 0 rfl)) ksliceB_34_3_1_true (idx_spec hx51).1 (idxm_lt hx51)) ?_
                refine TS.s rfl rfl rfl (StepS.ld0 rfl (OwnS.rd (Ent.at 0 rfl)) kscalB_3_true rfl (idxm hx51) rfl) ?_
                refine TS.s rfl rfl rfl (StepS.move rfl) ?_
                refine TS.s rfl rfl rfl (StepS.move rfl) ?_
                obtain ⟨x52, hx53, hj44⟩ := bind_some hj44
                refine TS.s rfl rfl rfl (StepS.idx rfl rfl (OwnS.rd (Ent.at 0 rfl)) ksliceB_34_3_1_true (idx_spec hx53).1 (idxm_lt hx53)) ?_
                refine TS.s rfl rfl rfl (StepS.ld0 rfl (OwnS.rd (Ent.at 0 rfl)) kscalB_3_true rfl (idxm hx53) rfl) ?_
                refine TS.s rfl rfl rfl (StepS.ari rfl rfl rfl) ?_
                refine TS.s rfl rfl rfl (StepS.max2 rfl rfl) ?_
                obtain ⟨x54, hx55, hj44⟩ := bind_some hj44
                refine TS.s rfl rfl rfl (StepS.idx rfl rfl (OwnS.rd (Ent.at 0 rfl)) ksliceB_34_3_1_true (idx_spec hx55).1 (idxm_lt hx55)) ?_
                refine TS.nil ?_
                refine TO.at ?_
                refine TO.stO (i := x16.toNat) (off := 0) (us := [I (mx x50 (w64 (x52 + 1)))]) 0 (mx x50 (w64 (x52 + 1))) rfl rfl rfl ksizeB_3_1_true rfl rfl rfl (idx_spec hx55).2 rfl (by simp [Value.oneCell']) rfl ?_
                cases hj44
                refine TO.nil fun a w e s => ?_
                exact ⟨v31, e.sub (lk_of_allIn ⟨rfl, rfl, rfl, rfl, rfl, rfl, trivial⟩), s⟩
              · replace hj44 := cond_f hc49 hj44
                cases hj44
                refine TC.skip fun a w e s => ?_
                exact ⟨v31, e.sub (lk_of_allIn ⟨rfl, rfl, rfl, rfl, rfl, rfl, trivial⟩), s⟩
            · intro a w ⟨v43, he, hs⟩
              refine TC.use ?_ he hs
              refine TC.region ?_
              refine TO.s rfl rfl rfl (StepS.move rfl) ?_
              refine TO.s rfl rfl rfl (StepS.ari rfl rfl rfl) ?_
              refine TO.s rfl rfl rfl (StepS.assign rfl) ?_
              cases hb40
              refine TO.nil fun a w e s => ?_
              exact ⟨v43, e.sub (lk_of_allIn ⟨rfl, rfl, rfl, rfl, rfl, rfl, trivial⟩), s⟩
          · replace hb40 := cond_f hc41 hb40
            cases hb40
            refine TC.exit rfl fun a w e s => ?_
            exact ⟨v31, e.sub (lk_of_allIn ⟨rfl, rfl, rfl, rfl, rfl, trivial⟩), s⟩
        · exact fun a w e s => ⟨v14, e.sub (lk_of_allIn ⟨rfl, rfl, rfl, rfl, rfl, rfl, trivial⟩), s⟩
        · rintro y36 rfl a w ⟨v37, he, hs⟩
          dsimp only [Ctl.on] at hb26
          refine TC.use ?_ he hs
          refine TC.region ?_
          refine TO.s rfl rfl rfl (StepS.move rfl) ?_
          refine TO.s rfl rfl rfl (StepS.move rfl) ?_
          refine TO.s rfl rfl rfl (StepS.move rfl) ?_
          obtain ⟨x56, hx57, hb26⟩ := bind_some hb26
          refine TO.s rfl rfl rfl (StepS.idx rfl rfl (OwnS.rd (Ent.at 0 rfl)) ksliceB_34_3_1_true (idx_spec hx57).1 (idxm_lt hx57)) ?_
          refine TO.s rfl rfl rfl (StepS.ld0 rfl (OwnS.rd (Ent.at 0 rfl)) kscalB_3_true rfl (idxm hx57) rfl) ?_
          refine TO.s rfl rfl rfl (StepS.max2 rfl rfl) ?_
          refine TO.s rfl rfl rfl (StepS.assign rfl) ?_
          refine TO.code ?_
          refine TC.region ?_
          refine TO.s rfl rfl rfl (StepS.move rfl) ?_
          refine TO.s rfl rfl rfl (StepS.ari rfl rfl rfl) ?_
          refine TO.s rfl rfl rfl (StepS.assign rfl) ?_
          cases hb26
          refine TO.nil fun a w e s => ?_
          exact ⟨v37, e.sub (lk_of_allIn ⟨rfl, rfl, rfl, rfl, rfl, trivial⟩), s⟩
        · rintro r rfl
          exact fun a w h => h.elim
      · replace hb26 := cond_f hc27 hb26
        cases hb26
        refine TC.exit rfl fun a w e s => ?_
        exact ⟨v14, e.sub (lk_of_allIn ⟨rfl, rfl, rfl, rfl, trivial⟩), s⟩
    · exact fun a w e s => ⟨v11, e.sub (lk_of_allIn ⟨rfl, rfl, rfl, rfl, rfl, trivial⟩), s⟩
    · rintro ⟨y21, x23⟩ rfl a w ⟨v22, he, hs⟩
      dsimp only [Ctl.on] at hm
      refine TC.use ?_ he hs
      refine TC.k ?_
      refine TC.region ?_
      refine TO.s rfl rfl rfl (StepS.assign rfl) ?_
      refine TO.code ?_
      refine TC.k ?_
      refine TC.k ?_
      refine TC.region ?_
      refine TO.s rfl rfl rfl (StepS.move rfl) ?_
      refine TO.s rfl rfl rfl (StepS.lenm rfl e1.tl.tl ksliceB_22_58_3_true rfl) ?_
      refine TO.s rfl rfl rfl (StepS.move rfl) ?_
      refine TO.code ?_
      obtain ⟨o69, hw70, hm⟩ := bind_some hm
      refine TC.loop hw70 (fun (y60, x61) => fun a w => ∃ v58 : Value, Mid 111 B [(7, v7), (8, v22), (9, I x23), (12, v58), (72, I (a1.length : Int)), (73, I x61)] (OwnS 3 1 v58 (y60.map cI) :: OwnS 3 1 v22 (y21.map cI) :: OwnS 60 1 v7 (r5.map cU) :: L) a w) (fun y68 => fun a w => ∃ v66 : Value, Mid 111 B [(12, v66)] (OwnS 3 1 v66 (y68.map cI) :: OwnS 3 1 v22 (y21.map cI) :: OwnS 60 1 v7 (r5.map cU) :: L) a w) (fun (_ : Unit) _ _ => False) ?_ ?_ ?_ ?_
      · rintro ⟨y60, x61⟩ o69r hb71 a w ⟨v58, he, hs⟩
        dsimp only [F26_L2] at hb71
        refine TC.use ?_ he hs
        refine TC.k ?_
        refine TC.region ?_
        refine TO.s rfl rfl rfl (StepS.cmp rfl rfl rfl) ?_
        refine TO.code ?_
        refine TC.k ?_
        refine TC.cond rfl (fun hc72 => ?_) (fun hc72 => ?_)
        · replace hb71 := cond_t hc72 hb71
          refine TC.skipk ?_
          refine TC.k ?_
          obtain ⟨y73, hj75, hb71⟩ := bind_some hb71
          refine TC.cutM (fun a w => ∃ v74 : Value, Mid 111 B [(7, v7), (8, v22), (9, I x23), (12, v74), (72, I (a1.length : Int)), (73, I x61)] (OwnS 3 1 v74 (y73.map cI) :: OwnS 3 1 v22 (y21.map cI) :: OwnS 60 1 v7 (r5.map cU) :: L) a w) ?_ ?_
          · refine TC.block ?_
            refine TC.k ?_
            refine TC.region ?_
            refine TO.s rfl rfl rfl (StepS.move rfl) ?_
            refine TO.s rfl rfl rfl (StepS.assign rfl) ?_
            refine TO.code ?_
            refine TC.k ?_
            refine TC.region_still kfollows_mixedOrders_true (by kernel_rfl) ?_
            refine TS.s rfl rfl rfl (StepS.move rfl) ?_
            refine TS.s rfl rfl rfl (StepS.move rfl) ?_
            obtain ⟨x76, hx77, hj75⟩ := bind_some hj75
            refine TS.s rfl rfl rfl (StepS.idx rfl rfl (OwnS.rd (Ent.at 1 rfl)) ksliceB_34_3_1_true (idx_spec hx77).1 (idxm_lt hx77)) ?_
            refine TS.s rfl rfl rfl (StepS.ld0 rfl (OwnS.rd (Ent.at 1 rfl)) kscalB_3_true rfl (idxm hx77) rfl) ?_
            refine TS.s rfl rfl rfl (StepS.move rfl) ?_
            refine TS.s rfl rfl rfl (StepS.move rfl) ?_
            refine TS.s rfl rfl rfl (StepS.lenm rfl (OwnS.rd (Ent.at 0 rfl)) ksliceB_34_3_1_true rfl) ?_
            refine TS.s rfl rfl rfl (StepS.ari rfl rfl rfl) ?_
            refine TS.s rfl rfl rfl (StepS.cmp rfl rfl rfl) ?_
            refine TS.s rfl rfl rfl (StepS.move rfl) ?_
            obtain ⟨b79, hj80, hj75⟩ := bind_some hj75
            refine TS.mid1 19 104 (.bool b79) ?_ ?_
            · refine bcase ((x76 == (w64 (x23 - (y60.length : Int))))) (fun hb78 => ?_) (fun hb78 => ?_)
              · replace hj80 := cond_t hb78 hj80
                refine TS.sw rfl rfl rfl hb78 rfl rfl (StepS.move rfl) ?_
                refine TS.sw rfl rfl rfl hb78 rfl rfl (StepS.lenm rfl (OwnS.rd (Ent.at 0 rfl)) ksliceB_34_3_1_true rfl) ?_
                refine TS.sw rfl rfl rfl hb78 rfl rfl (StepS.cmp rfl rfl rfl) ?_
                refine TS.sw rfl rfl rfl hb78 rfl rfl (StepS.move rfl) ?_
                obtain ⟨b82, hj83, hj80⟩ := bind_some hj80
                refine TS.mid1 14 103 (.bool b82) ?_ ?_
                · refine bcase (((y60.length : Int) == 0)) (fun hb81 => ?_) (fun hb81 => ?_)
                  · replace hj83 := cond_t hb81 hj83
                    cases hj83
                    refine TS.skip rfl rfl rfl (skipT hb81) rfl rfl ?_
                    refine TS.skip rfl rfl rfl (skipT hb81) rfl rfl ?_
                    refine TS.skip rfl rfl rfl (skipT hb81) rfl rfl ?_
                    refine TS.skip rfl rfl rfl (skipT hb81) rfl rfl ?_
                    refine TS.skip rfl rfl rfl (skipT hb81) rfl rfl ?_
                    refine TS.skip rfl rfl rfl (skipT hb81) rfl rfl ?_
                    refine TS.skip rfl rfl rfl (skipT hb81) rfl rfl ?_
                    refine TS.skip rfl rfl rfl (skipT hb81) rfl rfl ?_
                    refine TS.skip rfl rfl rfl (skipT hb81) rfl rfl ?_
                    refine TS.skip rfl rfl rfl (skipT hb81) rfl rfl ?_
                    refine TS.skip rfl rfl rfl (skipT hb81) rfl rfl ?_
                    refine TS.skip rfl rfl rfl (skipT hb81) rfl rfl ?_
                    refine TS.skip rfl rfl rfl (skipT hb81) rfl rfl ?_
                    refine TS.sw rfl rfl rfl hb78 rfl rfl (StepS.pickT rfl hb81 rfl) ?_
                    exact TS.up1 14 0 rfl rfl rfl rfl
                  · replace hj83 := cond_f hb81 hj83
                    refine TS.sw rfl rfl rfl hb81 rfl rfl (StepS.move rfl) ?_
                    refine TS.sw rfl rfl rfl hb81 rfl rfl (StepS.move rfl) ?_
                    obtain ⟨x84, hx85, hj83⟩ := bind_some hj83
                    refine TS.sw rfl rfl rfl hb81 rfl rfl (StepS.idx rfl rfl (OwnS.rd (Ent.at 2 rfl)) ksliceB_61_60_1_true (idx_spec hx85).1 (idxm_lt hx85)) ?_
                    refine TS.sw rfl rfl rfl hb81 rfl rfl (StepS.ld0 rfl (OwnS.rd (Ent.at 2 rfl)) kscalB_60_true rfl (idxm hx85) rfl) ?_
                    refine TS.sw rfl rfl rfl hb81 rfl rfl (StepS.move rfl) ?_
                    refine TS.sw rfl rfl rfl hb81 rfl rfl (StepS.move rfl) ?_
                    refine TS.sw rfl rfl rfl hb81 rfl rfl (StepS.lenm rfl (OwnS.rd (Ent.at 0 rfl)) ksliceB_34_3_1_true rfl) ?_
                    refine TS.sw rfl rfl rfl hb81 rfl rfl (StepS.ari rfl rfl rfl) ?_
                    obtain ⟨x86, hx87, hj83⟩ := bind_some hj83
                    refine TS.sw rfl rfl rfl hb81 rfl rfl (StepS.idx rfl rfl (OwnS.rd (Ent.at 0 rfl)) ksliceB_34_3_1_true (idx_spec hx87).1 (idxm_lt hx87)) ?_
                    refine TS.sw rfl rfl rfl hb81 rfl rfl (StepS.ld0 rfl (OwnS.rd (Ent.at 0 rfl)) kscalB_3_true rfl (idxm hx87) rfl) ?_
                    obtain ⟨k88, hk89, hj83⟩ := bind_some hj83
                    refine TS.sw rfl rfl rfl hb81 rfl rfl (StepS.shrk rfl rfl hk89) ?_
                    refine TS.sw rfl rfl rfl hb81 rfl rfl (StepS.bitU (n := 1#32) rfl rfl rfl) ?_
                    refine TS.sw rfl rfl rfl hb81 rfl rfl (StepS.cmpU (n := 1#32) rfl rfl rfl) ?_
                    cases hj83
                    refine TS.sw rfl rfl rfl hb78 rfl rfl (StepS.pickF rfl hb81 rfl) ?_
                    exact TS.up1 14 0 rfl rfl rfl rfl
                cases hj80
                refine TS.s rfl rfl rfl (StepS.pickT rfl hb78 rfl) ?_
                exact TS.up1 6 0 rfl rfl rfl rfl
              · replace hj80 := cond_f hb78 hj80
                cases hj80
                refine TS.skip rfl rfl rfl (skipF hb78) rfl rfl ?_
                refine TS.skip rfl rfl rfl (skipF hb78) rfl rfl ?_
                refine TS.skip rfl rfl rfl (skipF hb78) rfl rfl ?_
                refine TS.skip rfl rfl rfl (skipF hb78) rfl rfl ?_
                refine TS.skip rfl rfl rfl skipU rfl rfl ?_
                refine TS.skip rfl rfl rfl skipU rfl rfl ?_
                refine TS.skip rfl rfl rfl skipU rfl rfl ?_
                refine TS.skip rfl rfl rfl skipU rfl rfl ?_
                refine TS.skip rfl rfl rfl skipU rfl rfl ?_
                refine TS.skip rfl rfl rfl skipU rfl rfl ?_
                refine TS.skip rfl rfl rfl skipU rfl rfl ?_
                refine TS.skip rfl rfl rfl skipU rfl rfl ?_
                refine TS.skip rfl rfl rfl skipU rfl rfl ?_
                refine TS.skip rfl rfl rfl skipU rfl rfl ?_
                refine TS.skip rfl rfl rfl skipU rfl rfl ?_
                refine TS.skip rfl rfl rfl skipU rfl rfl ?_
                refine TS.skip rfl rfl rfl skipU rfl rfl ?_
                refine TS.skip rfl rfl rfl (skipF hb78) rfl rfl ?_
                refine TS.s rfl rfl rfl (StepS.pickF rfl hb78 rfl) ?_
                exact TS.up1 19 0 rfl rfl rfl rfl
            refine TS.code ?_
            refine TC.cond rfl (fun hc90 => ?_) (fun hc90 => ?_)
            · replace hj75 := cond_t hc90 hj75
              refine TC.region ?_
              refine TO.s rfl rfl rfl (StepS.move rfl) ?_
              refine TO.s rfl rfl rfl (StepS.move rfl) ?_
              refine TO.litS (f := cI) ([x61] : List Int) kelemB_34_3_1_8_true kinfo_3_bind_zero_some_I_0 rfl rfl (fun _ => rfl) rfl rfl (by kernel_rfl) rfl fun v91 => ?_
              obtain ⟨y93, hk94, hj75⟩ := bind_some hj75
              refine TO.app (k := 1) (f := cI) kelemB_34_3_1_8_true (by decide) rfl rfl rfl (OwnS.rd (Ent.at 0 rfl)) hk94 (fun x c hc => by simp [Value.oneCell'] at hc ⊢; first | (obtain rfl := hc; rfl) | (rcases hc with rfl <;> rfl)) rfl rfl fun v95 => ?_
              refine TO.s rfl rfl rfl (StepS.assign rfl) ?_
              cases hj75
              refine TO.nil fun a w e s => ?_
              exact ⟨v95, e.sub (lk_of_allIn ⟨rfl, rfl, rfl, rfl, rfl, rfl, trivial⟩), s.mono fun _ => Sat.dropN 1⟩
            · replace hj75 := cond_f hc90 hj75
              cases hj75
              refine TC.skip fun a w e s => ?_
              exact ⟨v58, e.sub (lk_of_allIn ⟨rfl, rfl, rfl, rfl, rfl, rfl, trivial⟩), s⟩
          · intro a w ⟨v74, he, hs⟩
            refine TC.use ?_ he hs
            refine TC.region ?_
            refine TO.s rfl rfl rfl (StepS.ari rfl rfl rfl) ?_
            refine TO.s rfl rfl rfl (StepS.move rfl) ?_
            cases hb71
            refine TO.nil fun a w e s => ?_
            exact ⟨v74, e.sub (lk_of_allIn ⟨rfl, rfl, rfl, rfl, rfl, rfl, trivial⟩), s⟩
        · replace hb71 := cond_f hc72 hb71
          cases hb71
          refine TC.exit rfl fun a w e s => ?_
          exact ⟨v58, e.sub (lk_of_allIn ⟨rfl, trivial⟩), s⟩
      · exact fun a w e s => ⟨.slice none 0 0, e.sub (lk_of_allIn ⟨rfl, rfl, rfl, rfl, rfl, rfl, trivial⟩), s.mono fun _ s => (by replace s := Sat.front 1 rfl s; replace s := Sat.front 1 rfl s; replace s := Sat.nilS (e := 3) (sz := 1) (f := cI) s; exact s)⟩
      · rintro y68 rfl a w ⟨v66, he, hs⟩
        dsimp only [Ctl.on] at hm
        refine TC.use ?_ he hs
        refine TC.k ?_
        refine TC.region ?_
        refine TO.s rfl rfl rfl (StepS.move rfl) ?_
        refine TO.s rfl rfl rfl (StepS.assign rfl) ?_
        refine TO.s rfl rfl rfl (StepS.assign rfl) ?_
        refine TO.code ?_
        cases hm
        refine TC.ret fun a w e s => ?_
        refine FRet.mk2 (P := Try.prog) (fn := Try.f26) (t := 4) (u := 5) e rfl rfl rfl ?_
        refine ⟨_, _, rfl, ⟨(v66), rfl, rfl⟩, ?_⟩
        refine s.mono fun _ s => ?_
        replace s := Sat.front 0 rfl s
        replace s := Sat.erase 1 s
        replace s := Sat.erase 1 s
        exact s
      · rintro r rfl
        exact fun a w h => h.elim
    · rintro r rfl
      exact fun a w h => h.elim

set_option maxRecDepth 100000 in
theorem C16 {B : World} {L : List HP} {a0 : Int} {a1 : List (Int × Int × Int)} {h1 : Value} {r0 : Int} (e1 : Ent L (Rd 3 h1 (a1.map cTiii))) (hm : F16 a0 a1 = some r0) {w : World} (st : St B L w) : Calls Try.prog 16 #[I a0, h1] w (fun e w' => (e = .returned (I r0) ∧ St B (L) w')) := by
  refine calls_of (N := 111) (L := L) (args := [I a0, h1]) Try.func16 rfl rfl rfl ?_ st
  dsimp only [F16] at hm
  refine TC.k ?_
  refine TC.region ?_
  refine TO.s rfl rfl rfl (StepS.assign rfl) ?_
  refine TO.code ?_
  refine TC.k ?_
  refine TC.k ?_
  refine TC.region ?_
  refine TO.s rfl rfl rfl (StepS.move rfl) ?_
  refine TO.s rfl rfl rfl (StepS.cmp rfl rfl rfl) ?_
  refine TO.s rfl rfl rfl (StepS.move rfl) ?_
  refine TO.mid1 3 16 (.bool ((decide (a0 < 1)) || (decide (a0 > 6)))) ?_ ?_
  · refine bcase ((decide (a0 < 1))) (fun hb1 => ?_) (fun hb1 => ?_)
    · refine TO.skip rfl rfl rfl (skipT hb1) rfl rfl ?_
      refine TO.skip rfl rfl rfl (skipT hb1) rfl rfl ?_
      refine TO.s rfl rfl rfl (StepS.pickT rfl hb1 rfl) ?_
      exact TO.up1 3 0 rfl rfl (by rw [hb1]; rfl) rfl
    · refine TO.sw rfl rfl rfl hb1 rfl rfl (StepS.move rfl) ?_
      refine TO.sw rfl rfl rfl hb1 rfl rfl (StepS.cmp rfl rfl rfl) ?_
      refine TO.s rfl rfl rfl (StepS.pickF rfl hb1 rfl) ?_
      exact TO.up1 3 0 rfl rfl (by rw [hb1]; rfl) rfl
  refine TO.s rfl rfl rfl (StepS.move rfl) ?_
  refine TO.mid1 4 21 (.bool (((decide (a0 < 1)) || (decide (a0 > 6))) || (decide ((a1.length : Int) > 30)))) ?_ ?_
  · refine bcase (((decide (a0 < 1)) || (decide (a0 > 6)))) (fun hb2 => ?_) (fun hb2 => ?_)
    · refine TO.skip rfl rfl rfl (skipT hb2) rfl rfl ?_
      refine TO.skip rfl rfl rfl (skipT hb2) rfl rfl ?_
      refine TO.skip rfl rfl rfl (skipT hb2) rfl rfl ?_
      refine TO.s rfl rfl rfl (StepS.pickT rfl hb2 rfl) ?_
      exact TO.up1 4 0 rfl rfl (by rw [hb2]; rfl) rfl
    · refine TO.sw rfl rfl rfl hb2 rfl rfl (StepS.move rfl) ?_
      refine TO.sw rfl rfl rfl hb2 rfl rfl (StepS.lenm rfl e1 ksliceB_22_58_3_true rfl) ?_
      refine TO.sw rfl rfl rfl hb2 rfl rfl (StepS.cmp rfl rfl rfl) ?_
      refine TO.s rfl rfl rfl (StepS.pickF rfl hb2 rfl) ?_
      exact TO.up1 4 0 rfl rfl (by rw [hb2]; rfl) rfl
  refine TO.code ?_
  refine TC.cond rfl (fun hc3 => ?_) (fun hc3 => ?_)
  · replace hm := cond_t hc3 hm
    refine TC.k ?_
    refine TC.region ?_
    refine TO.s rfl rfl rfl (StepS.assign rfl) ?_
    refine TO.code ?_
    cases hm
    refine TC.ret fun a w e s => ?_
    refine FRet.mk1 (P := Try.prog) (fn := Try.f16) (t := 4) e rfl rfl ?_
    exact ⟨rfl, s.mono fun _ => Sat.dropN 0⟩
  · replace hm := cond_f hc3 hm
    refine TC.skipk ?_
    refine TC.k ?_
    refine TC.k ?_
    refine TC.region ?_
    refine TO.s rfl rfl rfl (StepS.move rfl) ?_
    refine TO.s rfl rfl rfl (StepS.lenm rfl e1 ksliceB_22_58_3_true rfl) ?_
    refine TO.s rfl rfl rfl (StepS.move rfl) ?_
    refine TO.code ?_
    obtain ⟨o6, hw7, hm⟩ := bind_some hm
    refine TC.loop hw7 (fun x4 => fun a w => Mid 111 B [(0, I a0), (1, h1), (22, h1), (23, I (a1.length : Int)), (24, I x4)] (L) a w) (fun _ => fun a w => Mid 111 B [] (L) a w) (fun r0 => FRet Try.prog Try.f16 (fun e w' => (e = .returned (I r0) ∧ St B (L) w'))) ?_ ?_ ?_ ?_
    · rintro x4 o6r hb8 a w ⟨he, hs⟩
      dsimp only [F16_L0] at hb8
      refine TC.use ?_ he hs
      refine TC.k ?_
      refine TC.region ?_
      refine TO.s rfl rfl rfl (StepS.cmp rfl rfl rfl) ?_
      refine TO.code ?_
      refine TC.k ?_
      refine TC.cond rfl (fun hc9 => ?_) (fun hc9 => ?_)
      · replace hb8 := cond_t hc9 hb8
        refine TC.skipk ?_
        refine TC.k ?_
        refine TC.block ?_
        refine TC.k ?_
        refine TC.region ?_
        refine TO.s rfl rfl rfl (StepS.move rfl) ?_
        obtain ⟨x10, hx11, hb8⟩ := bind_some hb8
        refine TO.s rfl rfl rfl (StepS.idx rfl rfl e1 ksliceB_22_58_3_true (idx_spec hx11).1 (idxm_lt hx11)) ?_
        refine TO.s rfl rfl rfl (StepS.ldE rfl e1 kaggB_58_3_true rfl (idxm hx11)) ?_
        refine TO.alloc kinfo_58_bind_zero_some_agg_I_0_I_0_I_0 rfl rfl fun b12 => ?_
        refine TO.s rfl rfl rfl (StepS.assign rfl) ?_
        refine TO.stB (us := [I x10.1, I x10.2.1, I x10.2.2]) 0 [I x10.1, I x10.2.1, I x10.2.2] rfl rfl rfl ksizeB_58_3_true rfl rfl rfl (by simp [Value.oneCell']) rfl ?_
        refine TO.code ?_
        refine TC.k ?_
        refine TC.k ?_
        refine TC.region ?_
        refine TO.s rfl rfl rfl (StepS.fld rfl kfieldB_58_0_0_true) ?_
        refine TO.s rfl rfl rfl (StepS.ldB rfl (Ent.at 0 rfl) kscalB_3_true rfl) ?_
        refine TO.s rfl rfl rfl (StepS.cmp rfl rfl rfl) ?_
        refine TO.s rfl rfl rfl (StepS.move rfl) ?_
        refine TO.mid1 5 37 (.bool ((decide (x10.1 < 0)) || (decide (x10.1 ≥ a0)))) ?_ ?_
        · refine bcase ((decide (x10.1 < 0))) (fun hb13 => ?_) (fun hb13 => ?_)
          · refine TO.skip rfl rfl rfl (skipT hb13) rfl rfl ?_
            refine TO.skip rfl rfl rfl (skipT hb13) rfl rfl ?_
            refine TO.skip rfl rfl rfl (skipT hb13) rfl rfl ?_
            refine TO.skip rfl rfl rfl (skipT hb13) rfl rfl ?_
            refine TO.s rfl rfl rfl (StepS.pickT rfl hb13 rfl) ?_
            exact TO.up1 5 0 rfl rfl (by rw [hb13]; rfl) rfl
          · refine TO.sw rfl rfl rfl hb13 rfl rfl (StepS.fld rfl kfieldB_58_0_0_true) ?_
            refine TO.sw rfl rfl rfl hb13 rfl rfl (StepS.ldB rfl (Ent.at 0 rfl) kscalB_3_true rfl) ?_
            refine TO.sw rfl rfl rfl hb13 rfl rfl (StepS.move rfl) ?_
            refine TO.sw rfl rfl rfl hb13 rfl rfl (StepS.cmp rfl rfl rfl) ?_
            refine TO.s rfl rfl rfl (StepS.pickF rfl hb13 rfl) ?_
            exact TO.up1 5 0 rfl rfl (by rw [hb13]; rfl) rfl
        refine TO.code ?_
        refine TC.cond rfl (fun hc14 => ?_) (fun hc14 => ?_)
        · replace hb8 := cond_t hc14 hb8
          refine TC.k ?_
          refine TC.region ?_
          refine TO.s rfl rfl rfl (StepS.assign rfl) ?_
          refine TO.code ?_
          cases hb8
          refine TC.ret fun a w e s => ?_
          refine FRet.mk1 (P := Try.prog) (fn := Try.f16) (t := 4) e rfl rfl ?_
          exact ⟨rfl, s.mono fun _ => Sat.dropN 1⟩
        · replace hb8 := cond_f hc14 hb8
          refine TC.skipk ?_
          refine TC.k ?_
          refine TC.k ?_
          refine TC.region ?_
          refine TO.s rfl rfl rfl (StepS.fld rfl kfieldB_58_1_1_true) ?_
          refine TO.s rfl rfl rfl (StepS.ldB rfl (Ent.at 0 rfl) kscalB_3_true rfl) ?_
          refine TO.s rfl rfl rfl (StepS.cmp rfl rfl rfl) ?_
          refine TO.s rfl rfl rfl (StepS.move rfl) ?_
          refine TO.mid1 4 45 (.bool ((decide (x10.2.1 < 1)) || (decide (x10.2.1 > 3)))) ?_ ?_
          · refine bcase ((decide (x10.2.1 < 1))) (fun hb15 => ?_) (fun hb15 => ?_)
            · refine TO.skip rfl rfl rfl (skipT hb15) rfl rfl ?_
              refine TO.skip rfl rfl rfl (skipT hb15) rfl rfl ?_
              refine TO.skip rfl rfl rfl (skipT hb15) rfl rfl ?_
              refine TO.s rfl rfl rfl (StepS.pickT rfl hb15 rfl) ?_
              exact TO.up1 4 0 rfl rfl (by rw [hb15]; rfl) rfl
            · refine TO.sw rfl rfl rfl hb15 rfl rfl (StepS.fld rfl kfieldB_58_1_1_true) ?_
              refine TO.sw rfl rfl rfl hb15 rfl rfl (StepS.ldB rfl (Ent.at 0 rfl) kscalB_3_true rfl) ?_
              refine TO.sw rfl rfl rfl hb15 rfl rfl (StepS.cmp rfl rfl rfl) ?_
              refine TO.s rfl rfl rfl (StepS.pickF rfl hb15 rfl) ?_
              exact TO.up1 4 0 rfl rfl (by rw [hb15]; rfl) rfl
          refine TO.code ?_
          refine TC.cond rfl (fun hc16 => ?_) (fun hc16 => ?_)
          · replace hb8 := cond_t hc16 hb8
            refine TC.k ?_
            refine TC.region ?_
            refine TO.s rfl rfl rfl (StepS.assign rfl) ?_
            refine TO.code ?_
            cases hb8
            refine TC.ret fun a w e s => ?_
            refine FRet.mk1 (P := Try.prog) (fn := Try.f16) (t := 4) e rfl rfl ?_
            exact ⟨rfl, s.mono fun _ => Sat.dropN 1⟩
          · replace hb8 := cond_f hc16 hb8
            refine TC.skipk ?_
            refine TC.k ?_
            refine TC.k ?_
            refine TC.region ?_
            refine TO.s rfl rfl rfl (StepS.fld rfl kfieldB_58_1_1_true) ?_
            refine TO.s rfl rfl rfl (StepS.ldB rfl (Ent.at 0 rfl) kscalB_3_true rfl) ?_
            refine TO.s rfl rfl rfl (StepS.cmp rfl rfl rfl) ?_
            refine TO.code ?_
            refine TC.cond rfl (fun hc17 => ?_) (fun hc17 => ?_)
            · replace hb8 := cond_t hc17 hb8
              refine TC.exitk rfl ?_
              refine TC.region ?_
              refine TO.s rfl rfl rfl (StepS.ari rfl rfl rfl) ?_
              refine TO.s rfl rfl rfl (StepS.move rfl) ?_
              cases hb8
              refine TO.nil fun a w e s => ?_
              exact ⟨e.sub (lk_of_allIn ⟨rfl, rfl, rfl, rfl, rfl, trivial⟩), s.mono fun _ => Sat.dropN 1⟩
            · replace hb8 := cond_f hc17 hb8
              refine TC.skipk ?_
              refine TC.k ?_
              refine TC.k ?_
              refine TC.region ?_
              refine TO.s rfl rfl rfl (StepS.fld rfl kfieldB_58_2_2_true) ?_
              refine TO.s rfl rfl rfl (StepS.ldB rfl (Ent.at 0 rfl) kscalB_3_true rfl) ?_
              refine TO.s rfl rfl rfl (StepS.cmp rfl rfl rfl) ?_
              refine TO.s rfl rfl rfl (StepS.move rfl) ?_
              refine TO.mid1 4 56 (.bool ((decide (x10.2.2 < 0)) || (decide (x10.2.2 > 20)))) ?_ ?_
              · refine bcase ((decide (x10.2.2 < 0))) (fun hb18 => ?_) (fun hb18 => ?_)
                · refine TO.skip rfl rfl rfl (skipT hb18) rfl rfl ?_
                  refine TO.skip rfl rfl rfl (skipT hb18) rfl rfl ?_
                  refine TO.skip rfl rfl rfl (skipT hb18) rfl rfl ?_
                  refine TO.s rfl rfl rfl (StepS.pickT rfl hb18 rfl) ?_
                  exact TO.up1 4 0 rfl rfl (by rw [hb18]; rfl) rfl
                · refine TO.sw rfl rfl rfl hb18 rfl rfl (StepS.fld rfl kfieldB_58_2_2_true) ?_
                  refine TO.sw rfl rfl rfl hb18 rfl rfl (StepS.ldB rfl (Ent.at 0 rfl) kscalB_3_true rfl) ?_
                  refine TO.sw rfl rfl rfl hb18 rfl rfl (StepS.cmp rfl rfl rfl) ?_
                  refine TO.s rfl rfl rfl (StepS.pickF rfl hb18 rfl) ?_
                  exact TO.up1 4 0 rfl rfl (by rw [hb18]; rfl) rfl
              refine TO.code ?_
              refine TC.cond rfl (fun hc19 => ?_) (fun hc19 => ?_)
              · replace hb8 := cond_t hc19 hb8
                refine TC.k ?_
                refine TC.region ?_
                refine TO.s rfl rfl rfl (StepS.assign rfl) ?_
                refine TO.code ?_
                cases hb8
                refine TC.ret fun a w e s => ?_
                refine FRet.mk1 (P := Try.prog) (fn := Try.f16) (t := 4) e rfl rfl ?_
                exact ⟨rfl, s.mono fun _ => Sat.dropN 1⟩
              · replace hb8 := cond_f hc19 hb8
                refine TC.skipk ?_
                refine TC.k ?_
                refine TC.region ?_
                refine TO.s rfl rfl rfl (StepS.assign rfl) ?_
                refine TO.code ?_
                refine TC.k ?_
                refine TC.region ?_
                refine TO.s rfl rfl rfl (StepS.assign rfl) ?_
                refine TO.code ?_
                refine TC.k ?_
                refine TC.k ?_
                refine TC.region ?_
                refine TO.s rfl rfl rfl (StepS.move rfl) ?_
                refine TO.s rfl rfl rfl (StepS.move rfl) ?_
                obtain ⟨y20, hs21, hb8⟩ := bind_some hb8
                obtain ⟨hs21a, hs21b, hs21c, _⟩ := slI_spec hs21
                refine TO.s rfl rfl rfl (StepS.slc rfl e1.tl ksliceB_22_58_3_true rfl rfl hs21a hs21b (by simpa using hs21c)) ?_
                refine TO.s rfl rfl rfl (StepS.lenm rfl (Ent.sub e1.tl hs21) ksliceB_22_58_3_true rfl) ?_
                refine TO.s rfl rfl rfl (StepS.move rfl) ?_
                refine TO.code ?_
                obtain ⟨o31, hw32, hb8⟩ := bind_some hb8
                refine TC.loop hw32 (fun (x23, x24, x25) => fun a w => Mid 111 B [(0, I a0), (1, h1), (6, .pointer (some ⟨b12, 0, none⟩)), (7, I x23), (8, I x24), (22, h1), (23, I (a1.length : Int)), (24, I x4), (59, (subv h1 0 x4 3)), (60, I (y20.length : Int)), (61, I x25)] (Bx b12 58 [I x10.1, I x10.2.1, I x10.2.2] :: L) a w) (fun (x29, x30) => fun a w => Mid 111 B [(0, I a0), (1, h1), (6, .pointer (some ⟨b12, 0, none⟩)), (7, I x29), (8, I x30), (22, h1), (23, I (a1.length : Int)), (24, I x4)] (Bx b12 58 [I x10.1, I x10.2.1, I x10.2.2] :: L) a w) (fun (_ : Unit) _ _ => False) ?_ ?_ ?_ ?_
                · rintro ⟨x23, x24, x25⟩ o31r hb33 a w ⟨he, hs⟩
                  dsimp only [F16_L1] at hb33
                  refine TC.use ?_ he hs
                  refine TC.k ?_
                  refine TC.region ?_
                  refine TO.s rfl rfl rfl (StepS.cmp rfl rfl rfl) ?_
                  refine TO.code ?_
                  refine TC.k ?_
                  refine TC.cond rfl (fun hc34 => ?_) (fun hc34 => ?_)
                  · replace hb33 := cond_t hc34 hb33
                    refine TC.skipk ?_
                    refine TC.k ?_
                    obtain ⟨⟨x35, x36⟩, hj37, hb33⟩ := bind_some hb33
                    refine TC.cutM (fun a w => Mid 111 B [(0, I a0), (1, h1), (6, .pointer (some ⟨b12, 0, none⟩)), (7, I x35), (8, I x36), (22, h1), (23, I (a1.length : Int)), (24, I x4), (59, (subv h1 0 x4 3)), (60, I (y20.length : Int)), (61, I x25)] (Bx b12 58 [I x10.1, I x10.2.1, I x10.2.2] :: L) a w) ?_ ?_
                    · refine TC.block ?_
                      refine TC.k ?_
                      refine TC.region ?_
                      obtain ⟨x38, hx39, hj37⟩ := bind_some hj37
                      refine TO.s rfl rfl rfl (StepS.idx rfl rfl (Ent.sub e1.tl hs21) ksliceB_22_58_3_true (idx_spec hx39).1 (idxm_lt hx39)) ?_
                      refine TO.s rfl rfl rfl (StepS.ldE rfl (Ent.sub e1.tl hs21) kaggB_58_3_true rfl (idxm hx39)) ?_
                      refine TO.alloc kinfo_58_bind_zero_some_agg_I_0_I_0_I_0 rfl rfl fun b40 => ?_
                      refine TO.stB (us := [I x38.1, I x38.2.1, I x38.2.2]) 0 [I x38.1, I x38.2.1, I x38.2.2] rfl rfl rfl ksizeB_58_3_true rfl rfl rfl (by simp [Value.oneCell']) rfl ?_
                      refine TO.code ?_
                      refine TC.k ?_
                      refine TC.k ?_
                      refine TC.region ?_
                      refine TO.s rfl rfl rfl (StepS.fld rfl kfieldB_58_1_1_true) ?_
                      refine TO.s rfl rfl rfl (StepS.ldB rfl (Ent.at 0 rfl) kscalB_3_true rfl) ?_
                      refine TO.s rfl rfl rfl (StepS.cmp rfl rfl rfl) ?_
                      refine TO.s rfl rfl rfl (StepS.move rfl) ?_
                      refine TO.mid1 6 74 (.bool ((x38.2.1 == 2) && (x38.2.2 == x10.2.2))) ?_ ?_
                      · refine bcase ((x38.2.1 == 2)) (fun hb41 => ?_) (fun hb41 => ?_)
                        · refine TO.sw rfl rfl rfl hb41 rfl rfl (StepS.fld rfl kfieldB_58_2_2_true) ?_
                          refine TO.sw rfl rfl rfl hb41 rfl rfl (StepS.ldB rfl (Ent.at 0 rfl) kscalB_3_true rfl) ?_
                          refine TO.sw rfl rfl rfl hb41 rfl rfl (StepS.fld rfl kfieldB_58_2_2_true) ?_
                          refine TO.sw rfl rfl rfl hb41 rfl rfl (StepS.ldB rfl (Ent.at 1 rfl) kscalB_3_true rfl) ?_
                          refine TO.sw rfl rfl rfl hb41 rfl rfl (StepS.cmp rfl rfl rfl) ?_
                          refine TO.s rfl rfl rfl (StepS.pickT rfl hb41 rfl) ?_
                          exact TO.up1 6 0 rfl rfl (by rw [hb41]; rfl) rfl
                        · refine TO.skip rfl rfl rfl (skipF hb41) rfl rfl ?_
                          refine TO.skip rfl rfl rfl (skipF hb41) rfl rfl ?_
                          refine TO.skip rfl rfl rfl (skipF hb41) rfl rfl ?_
                          refine TO.skip rfl rfl rfl (skipF hb41) rfl rfl ?_
                          refine TO.skip rfl rfl rfl (skipF hb41) rfl rfl ?_
                          refine TO.s rfl rfl rfl (StepS.pickF rfl hb41 rfl) ?_
                          exact TO.up1 6 0 rfl rfl (by rw [hb41]; rfl) rfl
                      refine TO.code ?_
                      obtain ⟨x42, hj43, hj37⟩ := bind_some hj37
                      refine TC.cutM (fun a w => Mid 111 B [(0, I a0), (1, h1), (6, .pointer (some ⟨b12, 0, none⟩)), (7, I x42), (8, I x24), (10, .pointer (some ⟨b40, 0, none⟩)), (22, h1), (23, I (a1.length : Int)), (24, I x4), (59, (subv h1 0 x4 3)), (60, I (y20.length : Int)), (61, I x25)] (Bx b40 58 [I x38.1, I x38.2.1, I x38.2.2] :: Bx b12 58 [I x10.1, I x10.2.1, I x10.2.2] :: L) a w) ?_ ?_
                      · refine TC.cond rfl (fun hc44 => ?_) (fun hc44 => ?_)
                        · replace hj43 := cond_t hc44 hj43
                          refine TC.region ?_
                          refine TO.s rfl rfl rfl (StepS.move rfl) ?_
                          refine TO.s rfl rfl rfl (StepS.ari rfl rfl rfl) ?_
                          refine TO.s rfl rfl rfl (StepS.assign rfl) ?_
                          cases hj43
                          refine TO.nil fun a w e s => ?_
                          exact ⟨e.sub (lk_of_allIn ⟨rfl, rfl, rfl, rfl, rfl, rfl, rfl, rfl, rfl, rfl, rfl, rfl, trivial⟩), s⟩
                        · replace hj43 := cond_f hc44 hj43
                          cases hj43
                          refine TC.skip fun a w e s => ?_
                          exact ⟨e.sub (lk_of_allIn ⟨rfl, rfl, rfl, rfl, rfl, rfl, rfl, rfl, rfl, rfl, rfl, rfl, trivial⟩), s⟩
                      · intro a w ⟨he, hs⟩
                        refine TC.use ?_ he hs
                        refine TC.k ?_
                        refine TC.region ?_
                        refine TO.s rfl rfl rfl (StepS.fld rfl kfieldB_58_1_1_true) ?_
                        refine TO.s rfl rfl rfl (StepS.ldB rfl (Ent.at 0 rfl) kscalB_3_true rfl) ?_
                        refine TO.s rfl rfl rfl (StepS.cmp rfl rfl rfl) ?_
                        refine TO.s rfl rfl rfl (StepS.move rfl) ?_
                        refine TO.mid1 6 86 (.bool ((x38.2.1 == 3) && (x38.2.2 == x10.2.2))) ?_ ?_
                        · refine bcase ((x38.2.1 == 3)) (fun hb45 => ?_) (fun hb45 => ?_)
                          · refine TO.sw rfl rfl rfl hb45 rfl rfl (StepS.fld rfl kfieldB_58_2_2_true) ?_
                            refine TO.sw rfl rfl rfl hb45 rfl rfl (StepS.ldB rfl (Ent.at 0 rfl) kscalB_3_true rfl) ?_
                            refine TO.sw rfl rfl rfl hb45 rfl rfl (StepS.fld rfl kfieldB_58_2_2_true) ?_
                            refine TO.sw rfl rfl rfl hb45 rfl rfl (StepS.ldB rfl (Ent.at 1 rfl) kscalB_3_true rfl) ?_
                            refine TO.sw rfl rfl rfl hb45 rfl rfl (StepS.cmp rfl rfl rfl) ?_
                            refine TO.s rfl rfl rfl (StepS.pickT rfl hb45 rfl) ?_
                            exact TO.up1 6 0 rfl rfl (by rw [hb45]; rfl) rfl
                          · refine TO.skip rfl rfl rfl (skipF hb45) rfl rfl ?_
                            refine TO.skip rfl rfl rfl (skipF hb45) rfl rfl ?_
                            refine TO.skip rfl rfl rfl (skipF hb45) rfl rfl ?_
                            refine TO.skip rfl rfl rfl (skipF hb45) rfl rfl ?_
                            refine TO.skip rfl rfl rfl (skipF hb45) rfl rfl ?_
                            refine TO.s rfl rfl rfl (StepS.pickF rfl hb45 rfl) ?_
                            exact TO.up1 6 0 rfl rfl (by rw [hb45]; rfl) rfl
                        refine TO.code ?_
                        refine TC.cond rfl (fun hc46 => ?_) (fun hc46 => ?_)
                        · replace hj37 := cond_t hc46 hj37
                          refine TC.region ?_
                          refine TO.s rfl rfl rfl (StepS.move rfl) ?_
                          refine TO.s rfl rfl rfl (StepS.ari rfl rfl rfl) ?_
                          refine TO.s rfl rfl rfl (StepS.assign rfl) ?_
                          cases hj37
                          refine TO.nil fun a w e s => ?_
                          exact ⟨e.sub (lk_of_allIn ⟨rfl, rfl, rfl, rfl, rfl, rfl, rfl, rfl, rfl, rfl, rfl, trivial⟩), s.mono fun _ => Sat.dropN 1⟩
                        · replace hj37 := cond_f hc46 hj37
                          cases hj37
                          refine TC.skip fun a w e s => ?_
                          exact ⟨e.sub (lk_of_allIn ⟨rfl, rfl, rfl, rfl, rfl, rfl, rfl, rfl, rfl, rfl, rfl, trivial⟩), s.mono fun _ => Sat.dropN 1⟩
                    · intro a w ⟨he, hs⟩
                      refine TC.use ?_ he hs
                      refine TC.region ?_
                      refine TO.s rfl rfl rfl (StepS.ari rfl rfl rfl) ?_
                      refine TO.s rfl rfl rfl (StepS.move rfl) ?_
                      cases hb33
                      refine TO.nil fun a w e s => ?_
                      exact ⟨e.sub (lk_of_allIn ⟨rfl, rfl, rfl, rfl, rfl, rfl, rfl, rfl, rfl, rfl, rfl, trivial⟩), s⟩
                  · replace hb33 := cond_f hc34 hb33
                    cases hb33
                    refine TC.exit rfl fun a w e s => ?_
                    exact ⟨e.sub (lk_of_allIn ⟨rfl, rfl, rfl, rfl, rfl, rfl, rfl, rfl, trivial⟩), s⟩
                · exact fun a w e s => ⟨e.sub (lk_of_allIn ⟨rfl, rfl, rfl, rfl, rfl, rfl, rfl, rfl, rfl, rfl, rfl, trivial⟩), s⟩
                · rintro ⟨x29, x30⟩ rfl a w ⟨he, hs⟩
                  dsimp only [Ctl.on] at hb8
                  refine TC.use ?_ he hs
                  refine TC.k ?_
                  refine TC.region ?_
                  refine TO.s rfl rfl rfl (StepS.fld rfl kfieldB_58_1_1_true) ?_
                  refine TO.s rfl rfl rfl (StepS.ldB rfl (Ent.at 0 rfl) kscalB_3_true rfl) ?_
                  refine TO.s rfl rfl rfl (StepS.cmp rfl rfl rfl) ?_
                  refine TO.s rfl rfl rfl (StepS.move rfl) ?_
                  refine TO.mid1 3 96 (.bool ((x10.2.1 == 2) && (decide (x29 > 0)))) ?_ ?_
                  · refine bcase ((x10.2.1 == 2)) (fun hb47 => ?_) (fun hb47 => ?_)
                    · refine TO.sw rfl rfl rfl hb47 rfl rfl (StepS.move rfl) ?_
                      refine TO.sw rfl rfl rfl hb47 rfl rfl (StepS.cmp rfl rfl rfl) ?_
                      refine TO.s rfl rfl rfl (StepS.pickT rfl hb47 rfl) ?_
                      exact TO.up1 3 0 rfl rfl (by rw [hb47]; rfl) rfl
                    · refine TO.skip rfl rfl rfl (skipF hb47) rfl rfl ?_
                      refine TO.skip rfl rfl rfl (skipF hb47) rfl rfl ?_
                      refine TO.s rfl rfl rfl (StepS.pickF rfl hb47 rfl) ?_
                      exact TO.up1 3 0 rfl rfl (by rw [hb47]; rfl) rfl
                  refine TO.s rfl rfl rfl (StepS.move rfl) ?_
                  refine TO.mid1 12 109 (.bool (((x10.2.1 == 2) && (decide (x29 > 0))) || ((x10.2.1 == 3) && ((x29 == 0) || (decide (x30 > 0)))))) ?_ ?_
                  · refine bcase (((x10.2.1 == 2) && (decide (x29 > 0)))) (fun hb48 => ?_) (fun hb48 => ?_)
                    · refine TO.skip rfl rfl rfl (skipT hb48) rfl rfl ?_
                      refine TO.skip rfl rfl rfl (skipT hb48) rfl rfl ?_
                      refine TO.skip rfl rfl rfl (skipT hb48) rfl rfl ?_
                      refine TO.skip rfl rfl rfl (skipT hb48) rfl rfl ?_
                      refine TO.skip rfl rfl rfl skipU rfl rfl ?_
                      refine TO.skip rfl rfl rfl skipU rfl rfl ?_
                      refine TO.skip rfl rfl rfl skipU rfl rfl ?_
                      refine TO.skip rfl rfl rfl skipU rfl rfl ?_
                      refine TO.skip rfl rfl rfl skipU rfl rfl ?_
                      refine TO.skip rfl rfl rfl skipU rfl rfl ?_
                      refine TO.skip rfl rfl rfl (skipT hb48) rfl rfl ?_
                      refine TO.s rfl rfl rfl (StepS.pickT rfl hb48 rfl) ?_
                      exact TO.up1 12 0 rfl rfl (by rw [hb48]; rfl) rfl
                    · refine TO.sw rfl rfl rfl hb48 rfl rfl (StepS.fld rfl kfieldB_58_1_1_true) ?_
                      refine TO.sw rfl rfl rfl hb48 rfl rfl (StepS.ldB rfl (Ent.at 0 rfl) kscalB_3_true rfl) ?_
                      refine TO.sw rfl rfl rfl hb48 rfl rfl (StepS.cmp rfl rfl rfl) ?_
                      refine TO.sw rfl rfl rfl hb48 rfl rfl (StepS.move rfl) ?_
                      refine TO.mid1 7 108 (.bool ((x10.2.1 == 3) && ((x29 == 0) || (decide (x30 > 0))))) ?_ ?_
                      · refine bcase ((x10.2.1 == 3)) (fun hb49 => ?_) (fun hb49 => ?_)
                        · refine TO.sw rfl rfl rfl hb49 rfl rfl (StepS.move rfl) ?_
                          refine TO.sw rfl rfl rfl hb49 rfl rfl (StepS.cmp rfl rfl rfl) ?_
                          refine TO.sw rfl rfl rfl hb49 rfl rfl (StepS.move rfl) ?_
                          refine TO.mid1 3 107 (.bool ((x29 == 0) || (decide (x30 > 0)))) ?_ ?_
                          · refine bcase ((x29 == 0)) (fun hb50 => ?_) (fun hb50 => ?_)
                            · refine TO.skip rfl rfl rfl (skipT hb50) rfl rfl ?_
                              refine TO.skip rfl rfl rfl (skipT hb50) rfl rfl ?_
                              refine TO.sw rfl rfl rfl hb49 rfl rfl (StepS.pickT rfl hb50 rfl) ?_
                              exact TO.up1 3 0 rfl rfl (by rw [hb50]; rfl) rfl
                            · refine TO.sw rfl rfl rfl hb50 rfl rfl (StepS.move rfl) ?_
                              refine TO.sw rfl rfl rfl hb50 rfl rfl (StepS.cmp rfl rfl rfl) ?_
                              refine TO.sw rfl rfl rfl hb49 rfl rfl (StepS.pickF rfl hb50 rfl) ?_
                              exact TO.up1 3 0 rfl rfl (by rw [hb50]; rfl) rfl
                          refine TO.sw rfl rfl rfl hb48 rfl rfl (StepS.pickT rfl hb49 rfl) ?_
                          exact TO.up1 5 0 rfl rfl (by rw [hb49]; rfl) rfl
                        · refine TO.skip rfl rfl rfl (skipF hb49) rfl rfl ?_
                          refine TO.skip rfl rfl rfl (skipF hb49) rfl rfl ?_
                          refine TO.skip rfl rfl rfl (skipF hb49) rfl rfl ?_
                          refine TO.skip rfl rfl rfl skipU rfl rfl ?_
                          refine TO.skip rfl rfl rfl skipU rfl rfl ?_
                          refine TO.skip rfl rfl rfl (skipF hb49) rfl rfl ?_
                          refine TO.sw rfl rfl rfl hb48 rfl rfl (StepS.pickF rfl hb49 rfl) ?_
                          exact TO.up1 7 0 rfl rfl (by rw [hb49]; rfl) rfl
                      refine TO.s rfl rfl rfl (StepS.pickF rfl hb48 rfl) ?_
                      exact TO.up1 6 0 rfl rfl (by rw [hb48]; rfl) rfl
                  refine TO.code ?_
                  refine TC.cond rfl (fun hc51 => ?_) (fun hc51 => ?_)
                  · replace hb8 := cond_t hc51 hb8
                    refine TC.k ?_
                    refine TC.region ?_
                    refine TO.s rfl rfl rfl (StepS.assign rfl) ?_
                    refine TO.code ?_
                    cases hb8
                    refine TC.ret fun a w e s => ?_
                    refine FRet.mk1 (P := Try.prog) (fn := Try.f16) (t := 4) e rfl rfl ?_
                    exact ⟨rfl, s.mono fun _ => Sat.dropN 1⟩
                  · replace hb8 := cond_f hc51 hb8
                    refine TC.skipk ?_
                    refine TC.region ?_
                    refine TO.s rfl rfl rfl (StepS.ari rfl rfl rfl) ?_
                    refine TO.s rfl rfl rfl (StepS.move rfl) ?_
                    cases hb8
                    refine TO.nil fun a w e s => ?_
                    exact ⟨e.sub (lk_of_allIn ⟨rfl, rfl, rfl, rfl, rfl, trivial⟩), s.mono fun _ => Sat.dropN 1⟩
                · rintro r rfl
                  exact fun a w h => h.elim
      · replace hb8 := cond_f hc9 hb8
        cases hb8
        refine TC.exit rfl fun a w e s => ?_
        exact ⟨e.sub (lk_of_allIn trivial), s⟩
    · exact fun a w e s => ⟨e.sub (lk_of_allIn ⟨rfl, rfl, rfl, rfl, rfl, trivial⟩), s⟩
    · rintro _ rfl a w ⟨he, hs⟩
      dsimp only [Ctl.on] at hm
      refine TC.use ?_ he hs
      refine TC.k ?_
      refine TC.region ?_
      refine TO.s rfl rfl rfl (StepS.assign rfl) ?_
      refine TO.code ?_
      cases hm
      refine TC.ret fun a w e s => ?_
      refine FRet.mk1 (P := Try.prog) (fn := Try.f16) (t := 4) e rfl rfl ?_
      exact ⟨rfl, s.mono fun _ => Sat.dropN 0⟩
    · rintro r rfl
      cases hm
      exact fun a w h => h

set_option maxRecDepth 100000 in
theorem C18 {B : World} {L : List HP} {a0 : List (Int × Int × Int)} {h0 : Value} {r0 : List (List Bool)} (e0 : Ent L (Rd 3 h0 (a0.map cTiii))) (hm : F18 a0 = some r0) {w : World} (st : St B L w) : Calls Try.prog 18 #[h0] w (fun e w' => ∃ v M, e = .returned v ∧ (∃ (qv1 : Value) (qhs2 : List Value), v = qv1 ∧ M = (SS 28 4 1 cB qv1 qhs2 (r0) :: L)) ∧ St B M w') := by
  refine calls_of (N := 128) (L := L) (args := [h0]) Try.func18 rfl rfl rfl ?_ st
  dsimp only [F18] at hm
  refine TC.k ?_
  refine TC.region ?_
  refine TO.s rfl rfl rfl (StepS.assign rfl) ?_
  refine TO.code ?_
  refine TC.k ?_
  refine TC.region ?_
  refine TO.s rfl rfl rfl (StepS.move rfl) ?_
  refine TO.s rfl rfl rfl (StepS.lenm rfl e0 ksliceB_22_58_3_true rfl) ?_
  obtain ⟨y2, hk3, hm⟩ := bind_some hm
  refine TO.mkSS (ee := 4) (sz := 1) (f := cB) kelemB_29_28_1_24_true kinfo_28_bind_zero_some_slice_none_0_0 rfl rfl hk3 rfl fun v4 => ?_
  refine TO.s rfl rfl rfl (StepS.assign rfl) ?_
  refine TO.code ?_
  refine TC.k ?_
  refine TC.k ?_
  refine TC.region ?_
  refine TO.s rfl rfl rfl (StepS.assign rfl) ?_
  refine TO.code ?_
  obtain ⟨o17, hw18, hm⟩ := bind_some hm
  refine TC.loop hw18 (fun (y6, x9) => fun a w => ∃ v7 : Value, ∃ hs8 : List Value, Mid 128 B [(0, h0), (3, v7), (4, I x9)] (SS 28 4 1 cB v7 hs8 (y6) :: L) a w) (fun y14 => fun a w => ∃ v15 : Value, ∃ hs16 : List Value, Mid 128 B [(0, h0), (3, v15)] (SS 28 4 1 cB v15 hs16 (y14) :: L) a w) (fun (_ : Unit) _ _ => False) ?_ ?_ ?_ ?_
  · rintro ⟨y6, x9⟩ o17r hb19 a w ⟨v7, hs8, he, hs⟩
    dsimp only [F18_L0] at hb19
    refine TC.use ?_ he hs
    refine TC.k ?_
    refine TC.k ?_
    refine TC.region ?_
    refine TO.s rfl rfl rfl (StepS.move rfl) ?_
    refine TO.s rfl rfl rfl (StepS.move rfl) ?_
    refine TO.s rfl rfl rfl (StepS.lenm rfl e0.tl ksliceB_22_58_3_true rfl) ?_
    refine TO.s rfl rfl rfl (StepS.cmp rfl rfl rfl) ?_
    refine TO.code ?_
    refine TC.cond rfl (fun hc20 => ?_) (fun hc20 => ?_)
    · replace hb19 := cond_t hc20 hb19
      refine TC.skipk ?_
      refine TC.k ?_
      refine TC.block ?_
      refine TC.k ?_
      refine TC.region ?_
      refine TO.s rfl rfl rfl (StepS.move rfl) ?_
      refine TO.s rfl rfl rfl (StepS.move rfl) ?_
      refine TO.s rfl rfl rfl (StepS.move rfl) ?_
      refine TO.s rfl rfl rfl (StepS.lenm rfl e0.tl ksliceB_22_58_3_true rfl) ?_
      obtain ⟨y21, hk22, hb19⟩ := bind_some hb19
      refine TO.mkS (f := cB) (za := false) kelemB_28_4_1_1_true kinfo_4_bind_zero_some_bool_false rfl (by decide) rfl rfl hk22 rfl fun v23 => ?_
      obtain ⟨x25, hx26, hb19⟩ := bind_some hb19
      refine TO.s rfl rfl rfl (StepS.idxRR rfl rfl (SS.rr (Ent.at 1 rfl)) ksliceB_29_28_1_true hx26) ?_
      refine TO.ghost (fun _ s => Sat.front 1 rfl s) ?_
      refine TO.stRow (xs := y21) rfl rfl hx26 ksizeB_28_1_true ?_
      refine TO.code ?_
      refine TC.k ?_
      refine TC.region ?_
      refine TO.s rfl rfl rfl (StepS.move rfl) ?_
      refine TO.s rfl rfl rfl (StepS.ari rfl rfl rfl) ?_
      refine TO.s rfl rfl rfl (StepS.assign rfl) ?_
      refine TO.code ?_
      obtain ⟨o38, hw39, hb19⟩ := bind_some hb19
      refine TC.loop hw39 (fun (y27, x30) => fun a w => ∃ v28 : Value, ∃ hs29 : List Value, Mid 128 B [(0, h0), (3, v28), (4, I x9), (5, I x30)] (SS 28 4 1 cB v28 hs29 (y27) :: L) a w) (fun y35 => fun a w => ∃ v36 : Value, ∃ hs37 : List Value, Mid 128 B [(0, h0), (3, v36), (4, I x9)] (SS 28 4 1 cB v36 hs37 (y35) :: L) a w) (fun (_ : Unit) _ _ => False) ?_ ?_ ?_ ?_
      · rintro ⟨y27, x30⟩ o38r hb40 a w ⟨v28, hs29, he, hs⟩
        dsimp only [F18_L1] at hb40
        refine TC.use ?_ he hs
        refine TC.k ?_
        refine TC.k ?_
        refine TC.region ?_
        refine TO.s rfl rfl rfl (StepS.move rfl) ?_
        refine TO.s rfl rfl rfl (StepS.move rfl) ?_
        refine TO.s rfl rfl rfl (StepS.lenm rfl e0.tl ksliceB_22_58_3_true rfl) ?_
        refine TO.s rfl rfl rfl (StepS.cmp rfl rfl rfl) ?_
        refine TO.code ?_
        refine TC.cond rfl (fun hc41 => ?_) (fun hc41 => ?_)
        · replace hb40 := cond_t hc41 hb40
          refine TC.skipk ?_
          refine TC.k ?_
          refine TC.block ?_
          refine TC.region_tail 46 kfollows_mixedOrders_true (by kernel_rfl) ?_
          refine TS.s rfl rfl rfl (StepS.move rfl) ?_
          refine TS.s rfl rfl rfl (StepS.move rfl) ?_
          obtain ⟨x42, hx43, hb40⟩ := bind_some hb40
          refine TS.s rfl rfl rfl (StepS.idxRR rfl rfl (SS.rr (Ent.at 0 rfl)) ksliceB_29_28_1_true hx43) ?_
          refine TS.s rfl rfl rfl (StepS.ldRR rfl (SS.rr (Ent.at 0 rfl)) kscalB_28_true hx43) ?_
          refine TS.s rfl rfl rfl (StepS.move rfl) ?_
          refine TS.s rfl rfl rfl (StepS.move rfl) ?_
          refine TS.s rfl rfl rfl (StepS.move rfl) ?_
          obtain ⟨x45, hx46, hb40⟩ := bind_some hb40
          refine TS.s rfl rfl rfl (StepS.idx rfl rfl e0.tl ksliceB_22_58_3_true (idx_spec hx46).1 (idxm_lt hx46)) ?_
          refine TS.s rfl rfl rfl (StepS.ptrf rfl kfieldB_58_0_0_true) ?_
          refine TS.s rfl rfl rfl (StepS.ld1 rfl e0.tl kscalB_3_true rfl (idxm hx46) rfl) ?_
          refine TS.s rfl rfl rfl (StepS.move rfl) ?_
          refine TS.s rfl rfl rfl (StepS.move rfl) ?_
          obtain ⟨x47, hx48, hb40⟩ := bind_some hb40
          refine TS.s rfl rfl rfl (StepS.idx rfl rfl e0.tl ksliceB_22_58_3_true (idx_spec hx48).1 (idxm_lt hx48)) ?_
          refine TS.s rfl rfl rfl (StepS.ptrf rfl kfieldB_58_0_0_true) ?_
          refine TS.s rfl rfl rfl (StepS.ld1 rfl e0.tl kscalB_3_true rfl (idxm hx48) rfl) ?_
          refine TS.s rfl rfl rfl (StepS.cmp rfl rfl rfl) ?_
          refine TS.s rfl rfl rfl (StepS.move rfl) ?_
          obtain ⟨b50, hj51, hb40⟩ := bind_some hb40
          refine TS.mid1 28 76 (.bool b50) ?_ ?_
          · refine bcase ((x45.1 == x47.1)) (fun hb49 => ?_) (fun hb49 => ?_)
            · replace hj51 := cond_t hb49 hj51
              cases hj51
              refine TS.skip rfl rfl rfl (skipT hb49) rfl rfl ?_
              refine TS.skip rfl rfl rfl (skipT hb49) rfl rfl ?_
              refine TS.skip rfl rfl rfl (skipT hb49) rfl rfl ?_
              refine TS.skip rfl rfl rfl (skipT hb49) rfl rfl ?_
              refine TS.skip rfl rfl rfl (skipT hb49) rfl rfl ?_
              refine TS.skip rfl rfl rfl (skipT hb49) rfl rfl ?_
              refine TS.skip rfl rfl rfl (skipT hb49) rfl rfl ?_
              refine TS.skip rfl rfl rfl skipU rfl rfl ?_
              refine TS.skip rfl rfl rfl skipU rfl rfl ?_
              refine TS.skip rfl rfl rfl skipU rfl rfl ?_
              refine TS.skip rfl rfl rfl skipU rfl rfl ?_
              refine TS.skip rfl rfl rfl skipU rfl rfl ?_
              refine TS.skip rfl rfl rfl skipU rfl rfl ?_
              refine TS.skip rfl rfl rfl (skipT hb49) rfl rfl ?_
              refine TS.skip rfl rfl rfl (skipT hb49) rfl rfl ?_
              refine TS.skip rfl rfl rfl skipU rfl rfl ?_
              refine TS.skip rfl rfl rfl skipU rfl rfl ?_
              refine TS.skip rfl rfl rfl skipU rfl rfl ?_
              refine TS.skip rfl rfl rfl skipU rfl rfl ?_
              refine TS.skip rfl rfl rfl skipU rfl rfl ?_
              refine TS.skip rfl rfl rfl skipU rfl rfl ?_
              refine TS.skip rfl rfl rfl skipU rfl rfl ?_
              refine TS.skip rfl rfl rfl skipU rfl rfl ?_
              refine TS.skip rfl rfl rfl skipU rfl rfl ?_
              refine TS.skip rfl rfl rfl skipU rfl rfl ?_
              refine TS.skip rfl rfl rfl skipU rfl rfl ?_
              refine TS.skip rfl rfl rfl (skipT hb49) rfl rfl ?_
              refine TS.s rfl rfl rfl (StepS.pickT rfl hb49 rfl) ?_
              exact TS.up1 28 0 rfl rfl rfl rfl
            · replace hj51 := cond_f hb49 hj51
              refine TS.sw rfl rfl rfl hb49 rfl rfl (StepS.move rfl) ?_
              refine TS.sw rfl rfl rfl hb49 rfl rfl (StepS.move rfl) ?_
              obtain ⟨x52, hx53, hj51⟩ := bind_some hj51
              refine TS.sw rfl rfl rfl hb49 rfl rfl (StepS.idx rfl rfl e0.tl ksliceB_22_58_3_true (idx_spec hx53).1 (idxm_lt hx53)) ?_
              refine TS.sw rfl rfl rfl hb49 rfl rfl (StepS.ptrf rfl kfieldB_58_1_1_true) ?_
              refine TS.sw rfl rfl rfl hb49 rfl rfl (StepS.ld1 rfl e0.tl kscalB_3_true rfl (idxm hx53) rfl) ?_
              refine TS.sw rfl rfl rfl hb49 rfl rfl (StepS.cmp rfl rfl rfl) ?_
              refine TS.sw rfl rfl rfl hb49 rfl rfl (StepS.move rfl) ?_
              obtain ⟨b55, hj56, hj51⟩ := bind_some hj51
              refine TS.mid1 7 62 (.bool b55) ?_ ?_
              · refine bcase ((x52.2.1 == 2)) (fun hb54 => ?_) (fun hb54 => ?_)
                · replace hj56 := cond_t hb54 hj56
                  refine TS.sw rfl rfl rfl hb54 rfl rfl (StepS.move rfl) ?_
                  refine TS.sw rfl rfl rfl hb54 rfl rfl (StepS.move rfl) ?_
                  obtain ⟨x57, hx58, hj56⟩ := bind_some hj56
                  refine TS.sw rfl rfl rfl hb54 rfl rfl (StepS.idx rfl rfl e0.tl ksliceB_22_58_3_true (idx_spec hx58).1 (idxm_lt hx58)) ?_
                  refine TS.sw rfl rfl rfl hb54 rfl rfl (StepS.ptrf rfl kfieldB_58_1_1_true) ?_
                  refine TS.sw rfl rfl rfl hb54 rfl rfl (StepS.ld1 rfl e0.tl kscalB_3_true rfl (idxm hx58) rfl) ?_
                  refine TS.sw rfl rfl rfl hb54 rfl rfl (StepS.cmp rfl rfl rfl) ?_
                  cases hj56
                  refine TS.sw rfl rfl rfl hb49 rfl rfl (StepS.pickT rfl hb54 rfl) ?_
                  exact TS.up1 7 0 rfl rfl rfl rfl
                · replace hj56 := cond_f hb54 hj56
                  cases hj56
                  refine TS.skip rfl rfl rfl (skipF hb54) rfl rfl ?_
                  refine TS.skip rfl rfl rfl (skipF hb54) rfl rfl ?_
                  refine TS.skip rfl rfl rfl (skipF hb54) rfl rfl ?_
                  refine TS.skip rfl rfl rfl (skipF hb54) rfl rfl ?_
                  refine TS.skip rfl rfl rfl (skipF hb54) rfl rfl ?_
                  refine TS.skip rfl rfl rfl (skipF hb54) rfl rfl ?_
                  refine TS.sw rfl rfl rfl hb49 rfl rfl (StepS.pickF rfl hb54 rfl) ?_
                  exact TS.up1 7 0 rfl rfl rfl rfl
              refine TS.sw rfl rfl rfl hb49 rfl rfl (StepS.move rfl) ?_
              obtain ⟨b60, hj61, hj51⟩ := bind_some hj51
              refine TS.mid1 12 75 (.bool b60) ?_ ?_
              · refine bcase (b55) (fun hb59 => ?_) (fun hb59 => ?_)
                · replace hj61 := cond_t hb59 hj61
                  refine TS.sw rfl rfl rfl hb59 rfl rfl (StepS.move rfl) ?_
                  refine TS.sw rfl rfl rfl hb59 rfl rfl (StepS.move rfl) ?_
                  obtain ⟨x62, hx63, hj61⟩ := bind_some hj61
                  refine TS.sw rfl rfl rfl hb59 rfl rfl (StepS.idx rfl rfl e0.tl ksliceB_22_58_3_true (idx_spec hx63).1 (idxm_lt hx63)) ?_
                  refine TS.sw rfl rfl rfl hb59 rfl rfl (StepS.ptrf rfl kfieldB_58_2_2_true) ?_
                  refine TS.sw rfl rfl rfl hb59 rfl rfl (StepS.ld1 rfl e0.tl kscalB_3_true rfl (idxm hx63) rfl) ?_
                  refine TS.sw rfl rfl rfl hb59 rfl rfl (StepS.move rfl) ?_
                  refine TS.sw rfl rfl rfl hb59 rfl rfl (StepS.move rfl) ?_
                  obtain ⟨x64, hx65, hj61⟩ := bind_some hj61
                  refine TS.sw rfl rfl rfl hb59 rfl rfl (StepS.idx rfl rfl e0.tl ksliceB_22_58_3_true (idx_spec hx65).1 (idxm_lt hx65)) ?_
                  refine TS.sw rfl rfl rfl hb59 rfl rfl (StepS.ptrf rfl kfieldB_58_2_2_true) ?_
                  refine TS.sw rfl rfl rfl hb59 rfl rfl (StepS.ld1 rfl e0.tl kscalB_3_true rfl (idxm hx65) rfl) ?_
                  refine TS.sw rfl rfl rfl hb59 rfl rfl (StepS.cmp rfl rfl rfl) ?_
                  cases hj61
                  refine TS.sw rfl rfl rfl hb49 rfl rfl (StepS.pickT rfl hb59 rfl) ?_
                  exact TS.up1 12 0 rfl rfl rfl rfl
                · replace hj61 := cond_f hb59 hj61
                  cases hj61
                  refine TS.skip rfl rfl rfl (skipF hb59) rfl rfl ?_
                  refine TS.skip rfl rfl rfl (skipF hb59) rfl rfl ?_
                  refine TS.skip rfl rfl rfl (skipF hb59) rfl rfl ?_
                  refine TS.skip rfl rfl rfl (skipF hb59) rfl rfl ?_
                  refine TS.skip rfl rfl rfl (skipF hb59) rfl rfl ?_
                  refine TS.skip rfl rfl rfl (skipF hb59) rfl rfl ?_
                  refine TS.skip rfl rfl rfl (skipF hb59) rfl rfl ?_
                  refine TS.skip rfl rfl rfl (skipF hb59) rfl rfl ?_
                  refine TS.skip rfl rfl rfl (skipF hb59) rfl rfl ?_
                  refine TS.skip rfl rfl rfl (skipF hb59) rfl rfl ?_
                  refine TS.skip rfl rfl rfl (skipF hb59) rfl rfl ?_
                  refine TS.sw rfl rfl rfl hb49 rfl rfl (StepS.pickF rfl hb59 rfl) ?_
                  exact TS.up1 12 0 rfl rfl rfl rfl
              cases hj51
              refine TS.s rfl rfl rfl (StepS.pickF rfl hb49 rfl) ?_
              exact TS.up1 11 0 rfl rfl rfl rfl
          obtain ⟨x66, hx67, hb40⟩ := bind_some hb40
          refine TS.s rfl rfl rfl (StepS.idx rfl rfl (RR.row (SS.rr (Ent.at 0 rfl)) hx43) ksliceB_28_4_1_true (idx_spec hx67).1 (idxm_lt hx67)) ?_
          refine TS.nil ?_
          refine TO.at ?_
          refine TO.stEl (i := x9) (j := x30.toNat) (off := 0) (us := [.bool b50]) b50 rfl rfl hx43 ksizeB_4_1_true rfl rfl rfl (idx_spec hx67).2 rfl (by simp [Value.oneCell']) rfl ?_
          refine TO.code ?_
          refine TC.region ?_
          refine TO.s rfl rfl rfl (StepS.move rfl) ?_
          refine TO.s rfl rfl rfl (StepS.ari rfl rfl rfl) ?_
          refine TO.s rfl rfl rfl (StepS.assign rfl) ?_
          cases hb40
          refine TO.nil fun a w e s => ?_
          exact ⟨v28, hs29, e.sub (lk_of_allIn ⟨rfl, rfl, rfl, rfl, trivial⟩), s⟩
        · replace hb40 := cond_f hc41 hb40
          cases hb40
          refine TC.exit rfl fun a w e s => ?_
          exact ⟨v28, hs29, e.sub (lk_of_allIn ⟨rfl, rfl, rfl, trivial⟩), s⟩
      · exact fun a w e s => ⟨v7, (hs8.set x9.toNat v23), e.sub (lk_of_allIn ⟨rfl, rfl, rfl, rfl, trivial⟩), s⟩
      · rintro y35 rfl a w ⟨v36, hs37, he, hs⟩
        dsimp only [Ctl.on] at hb19
        refine TC.use ?_ he hs
        refine TC.region ?_
        refine TO.s rfl rfl rfl (StepS.move rfl) ?_
        refine TO.s rfl rfl rfl (StepS.ari rfl rfl rfl) ?_
        refine TO.s rfl rfl rfl (StepS.assign rfl) ?_
        cases hb19
        refine TO.nil fun a w e s => ?_
        exact ⟨v36, hs37, e.sub (lk_of_allIn ⟨rfl, rfl, rfl, trivial⟩), s⟩
      · rintro r rfl
        exact fun a w h => h.elim
    · replace hb19 := cond_f hc20 hb19
      cases hb19
      refine TC.exit rfl fun a w e s => ?_
      exact ⟨v7, hs8, e.sub (lk_of_allIn ⟨rfl, rfl, trivial⟩), s⟩
  · exact fun a w e s => ⟨v4, (y2.map fun _ => nilv), e.sub (lk_of_allIn ⟨rfl, rfl, rfl, trivial⟩), s⟩
  · rintro y14 rfl a w ⟨v15, hs16, he, hs⟩
    dsimp only [Ctl.on] at hm
    refine TC.use ?_ he hs
    refine TC.k ?_
    refine TC.k ?_
    refine TC.region ?_
    refine TO.s rfl rfl rfl (StepS.assign rfl) ?_
    refine TO.code ?_
    obtain ⟨o79, hw80, hm⟩ := bind_some hm
    refine TC.loop hw80 (fun (y68, x71) => fun a w => ∃ v69 : Value, ∃ hs70 : List Value, Mid 128 B [(0, h0), (3, v69), (6, I x71)] (SS 28 4 1 cB v69 hs70 (y68) :: L) a w) (fun y76 => fun a w => ∃ v77 : Value, ∃ hs78 : List Value, Mid 128 B [(3, v77)] (SS 28 4 1 cB v77 hs78 (y76) :: L) a w) (fun (_ : Unit) _ _ => False) ?_ ?_ ?_ ?_
    · rintro ⟨y68, x71⟩ o79r hb81 a w ⟨v69, hs70, he, hs⟩
      dsimp only [F18_L2] at hb81
      refine TC.use ?_ he hs
      refine TC.k ?_
      refine TC.k ?_
      refine TC.region ?_
      refine TO.s rfl rfl rfl (StepS.move rfl) ?_
      refine TO.s rfl rfl rfl (StepS.move rfl) ?_
      refine TO.s rfl rfl rfl (StepS.lenm rfl e0.tl ksliceB_22_58_3_true rfl) ?_
      refine TO.s rfl rfl rfl (StepS.cmp rfl rfl rfl) ?_
      refine TO.code ?_
      refine TC.cond rfl (fun hc82 => ?_) (fun hc82 => ?_)
      · replace hb81 := cond_t hc82 hb81
        refine TC.skipk ?_
        refine TC.k ?_
        refine TC.block ?_
        refine TC.k ?_
        refine TC.region ?_
        refine TO.s rfl rfl rfl (StepS.assign rfl) ?_
        refine TO.code ?_
        obtain ⟨o94, hw95, hb81⟩ := bind_some hb81
        refine TC.loop hw95 (fun (y83, x86) => fun a w => ∃ v84 : Value, ∃ hs85 : List Value, Mid 128 B [(0, h0), (3, v84), (6, I x71), (7, I x86)] (SS 28 4 1 cB v84 hs85 (y83) :: L) a w) (fun y91 => fun a w => ∃ v92 : Value, ∃ hs93 : List Value, Mid 128 B [(0, h0), (3, v92), (6, I x71)] (SS 28 4 1 cB v92 hs93 (y91) :: L) a w) (fun (_ : Unit) _ _ => False) ?_ ?_ ?_ ?_
        · rintro ⟨y83, x86⟩ o94r hb96 a w ⟨v84, hs85, he, hs⟩
          dsimp only [F18_L3] at hb96
          refine TC.use ?_ he hs
          refine TC.k ?_
          refine TC.k ?_
          refine TC.region ?_
          refine TO.s rfl rfl rfl (StepS.move rfl) ?_
          refine TO.s rfl rfl rfl (StepS.move rfl) ?_
          refine TO.s rfl rfl rfl (StepS.lenm rfl e0.tl ksliceB_22_58_3_true rfl) ?_
          refine TO.s rfl rfl rfl (StepS.cmp rfl rfl rfl) ?_
          refine TO.code ?_
          refine TC.cond rfl (fun hc97 => ?_) (fun hc97 => ?_)
          · replace hb96 := cond_t hc97 hb96
            refine TC.skipk ?_
            refine TC.k ?_
            refine TC.block ?_
            refine TC.k ?_
            refine TC.region ?_
            refine TO.s rfl rfl rfl (StepS.assign rfl) ?_
            refine TO.code ?_
            obtain ⟨o109, hw110, hb96⟩ := bind_some hb96
            refine TC.loop hw110 (fun (y98, x101) => fun a w => ∃ v99 : Value, ∃ hs100 : List Value, Mid 128 B [(0, h0), (3, v99), (6, I x71), (7, I x86), (8, I x101)] (SS 28 4 1 cB v99 hs100 (y98) :: L) a w) (fun y106 => fun a w => ∃ v107 : Value, ∃ hs108 : List Value, Mid 128 B [(0, h0), (3, v107), (6, I x71), (7, I x86)] (SS 28 4 1 cB v107 hs108 (y106) :: L) a w) (fun (_ : Unit) _ _ => False) ?_ ?_ ?_ ?_
            · rintro ⟨y98, x101⟩ o109r hb111 a w ⟨v99, hs100, he, hs⟩
              dsimp only [F18_L4] at hb111
              refine TC.use ?_ he hs
              refine TC.k ?_
              refine TC.k ?_
              refine TC.region ?_
              refine TO.s rfl rfl rfl (StepS.move rfl) ?_
              refine TO.s rfl rfl rfl (StepS.move rfl) ?_
              refine TO.s rfl rfl rfl (StepS.lenm rfl e0.tl ksliceB_22_58_3_true rfl) ?_
              refine TO.s rfl rfl rfl (StepS.cmp rfl rfl rfl) ?_
              refine TO.code ?_
              refine TC.cond rfl (fun hc112 => ?_) (fun hc112 => ?_)
              · replace hb111 := cond_t hc112 hb111
                refine TC.skipk ?_
                refine TC.k ?_
                refine TC.block ?_
                refine TC.region_tail 31 kfollows_mixedOrders_true (by kernel_rfl) ?_
                refine TS.s rfl rfl rfl (StepS.move rfl) ?_
                refine TS.s rfl rfl rfl (StepS.move rfl) ?_
                obtain ⟨x113, hx114, hb111⟩ := bind_some hb111
                refine TS.s rfl rfl rfl (StepS.idxRR rfl rfl (SS.rr (Ent.at 0 rfl)) ksliceB_29_28_1_true hx114) ?_
                refine TS.s rfl rfl rfl (StepS.ldRR rfl (SS.rr (Ent.at 0 rfl)) kscalB_28_true hx114) ?_
                refine TS.s rfl rfl rfl (StepS.move rfl) ?_
                refine TS.s rfl rfl rfl (StepS.move rfl) ?_
                refine TS.s rfl rfl rfl (StepS.move rfl) ?_
                obtain ⟨x116, hx117, hb111⟩ := bind_some hb111
                refine TS.s rfl rfl rfl (StepS.idxRR rfl rfl (SS.rr (Ent.at 0 rfl)) ksliceB_29_28_1_true hx117) ?_
                refine TS.s rfl rfl rfl (StepS.ldRR rfl (SS.rr (Ent.at 0 rfl)) kscalB_28_true hx117) ?_
                refine TS.s rfl rfl rfl (StepS.move rfl) ?_
                obtain ⟨x119, hx120, hb111⟩ := bind_some hb111
                refine TS.s rfl rfl rfl (StepS.idx rfl rfl (RR.row (SS.rr (Ent.at 0 rfl)) hx117) ksliceB_28_4_1_true (idx_spec hx120).1 (idxm_lt hx120)) ?_
                refine TS.s rfl rfl rfl (StepS.ld0 rfl (RR.row (SS.rr (Ent.at 0 rfl)) hx117) kscalB_4_true rfl (idxm hx120) rfl) ?_
                refine TS.s rfl rfl rfl (StepS.move rfl) ?_
                obtain ⟨b122, hj123, hb111⟩ := bind_some hb111
                refine TS.mid1 17 125 (.bool b122) ?_ ?_
                · refine bcase (x119) (fun hb121 => ?_) (fun hb121 => ?_)
                  · replace hj123 := cond_t hb121 hj123
                    cases hj123
                    refine TS.skip rfl rfl rfl (skipT hb121) rfl rfl ?_
                    refine TS.skip rfl rfl rfl (skipT hb121) rfl rfl ?_
                    refine TS.skip rfl rfl rfl (skipT hb121) rfl rfl ?_
                    refine TS.skip rfl rfl rfl (skipT hb121) rfl rfl ?_
                    refine TS.skip rfl rfl rfl (skipT hb121) rfl rfl ?_
                    refine TS.skip rfl rfl rfl (skipT hb121) rfl rfl ?_
                    refine TS.skip rfl rfl rfl (skipT hb121) rfl rfl ?_
                    refine TS.skip rfl rfl rfl (skipT hb121) rfl rfl ?_
                    refine TS.skip rfl rfl rfl skipU rfl rfl ?_
                    refine TS.skip rfl rfl rfl skipU rfl rfl ?_
                    refine TS.skip rfl rfl rfl skipU rfl rfl ?_
                    refine TS.skip rfl rfl rfl skipU rfl rfl ?_
                    refine TS.skip rfl rfl rfl skipU rfl rfl ?_
                    refine TS.skip rfl rfl rfl skipU rfl rfl ?_
                    refine TS.skip rfl rfl rfl skipU rfl rfl ?_
                    refine TS.skip rfl rfl rfl (skipT hb121) rfl rfl ?_
                    refine TS.s rfl rfl rfl (StepS.pickT rfl hb121 rfl) ?_
                    exact TS.up1 17 0 rfl rfl rfl rfl
                  · replace hj123 := cond_f hb121 hj123
                    refine TS.sw rfl rfl rfl hb121 rfl rfl (StepS.move rfl) ?_
                    refine TS.sw rfl rfl rfl hb121 rfl rfl (StepS.move rfl) ?_
                    obtain ⟨x124, hx125, hj123⟩ := bind_some hj123
                    refine TS.sw rfl rfl rfl hb121 rfl rfl (StepS.idxRR rfl rfl (SS.rr (Ent.at 0 rfl)) ksliceB_29_28_1_true hx125) ?_
                    refine TS.sw rfl rfl rfl hb121 rfl rfl (StepS.ldRR rfl (SS.rr (Ent.at 0 rfl)) kscalB_28_true hx125) ?_
                    refine TS.sw rfl rfl rfl hb121 rfl rfl (StepS.move rfl) ?_
                    obtain ⟨x127, hx128, hj123⟩ := bind_some hj123
                    refine TS.sw rfl rfl rfl hb121 rfl rfl (StepS.idx rfl rfl (RR.row (SS.rr (Ent.at 0 rfl)) hx125) ksliceB_28_4_1_true (idx_spec hx128).1 (idxm_lt hx128)) ?_
                    refine TS.sw rfl rfl rfl hb121 rfl rfl (StepS.ld0 rfl (RR.row (SS.rr (Ent.at 0 rfl)) hx125) kscalB_4_true rfl (idxm hx128) rfl) ?_
                    refine TS.sw rfl rfl rfl hb121 rfl rfl (StepS.move rfl) ?_
                    obtain ⟨b130, hj131, hj123⟩ := bind_some hj123
                    refine TS.mid1 8 124 (.bool b130) ?_ ?_
                    · refine bcase (x127) (fun hb129 => ?_) (fun hb129 => ?_)
                      · replace hj131 := cond_t hb129 hj131
                        refine TS.sw rfl rfl rfl hb129 rfl rfl (StepS.move rfl) ?_
                        refine TS.sw rfl rfl rfl hb129 rfl rfl (StepS.move rfl) ?_
                        obtain ⟨x132, hx133, hj131⟩ := bind_some hj131
                        refine TS.sw rfl rfl rfl hb129 rfl rfl (StepS.idxRR rfl rfl (SS.rr (Ent.at 0 rfl)) ksliceB_29_28_1_true hx133) ?_
                        refine TS.sw rfl rfl rfl hb129 rfl rfl (StepS.ldRR rfl (SS.rr (Ent.at 0 rfl)) kscalB_28_true hx133) ?_
                        refine TS.sw rfl rfl rfl hb129 rfl rfl (StepS.move rfl) ?_
                        obtain ⟨x135, hx136, hj131⟩ := bind_some hj131
                        refine TS.sw rfl rfl rfl hb129 rfl rfl (StepS.idx rfl rfl (RR.row (SS.rr (Ent.at 0 rfl)) hx133) ksliceB_28_4_1_true (idx_spec hx136).1 (idxm_lt hx136)) ?_
                        refine TS.sw rfl rfl rfl hb129 rfl rfl (StepS.ld0 rfl (RR.row (SS.rr (Ent.at 0 rfl)) hx133) kscalB_4_true rfl (idxm hx136) rfl) ?_
                        cases hj131
                        refine TS.sw rfl rfl rfl hb121 rfl rfl (StepS.pickT rfl hb129 rfl) ?_
                        exact TS.up1 8 0 rfl rfl rfl rfl
                      · replace hj131 := cond_f hb129 hj131
                        cases hj131
                        refine TS.skip rfl rfl rfl (skipF hb129) rfl rfl ?_
                        refine TS.skip rfl rfl rfl (skipF hb129) rfl rfl ?_
                        refine TS.skip rfl rfl rfl (skipF hb129) rfl rfl ?_
                        refine TS.skip rfl rfl rfl (skipF hb129) rfl rfl ?_
                        refine TS.skip rfl rfl rfl (skipF hb129) rfl rfl ?_
                        refine TS.skip rfl rfl rfl (skipF hb129) rfl rfl ?_
                        refine TS.skip rfl rfl rfl (skipF hb129) rfl rfl ?_
                        refine TS.sw rfl rfl rfl hb121 rfl rfl (StepS.pickF rfl hb129 rfl) ?_
                        exact TS.up1 8 0 rfl rfl rfl rfl
                    cases hj123
                    refine TS.s rfl rfl rfl (StepS.pickF rfl hb121 rfl) ?_
                    exact TS.up1 10 0 rfl rfl rfl rfl
                obtain ⟨x137, hx138, hb111⟩ := bind_some hb111
                refine TS.s rfl rfl rfl (StepS.idx rfl rfl (RR.row (SS.rr (Ent.at 0 rfl)) hx114) ksliceB_28_4_1_true (idx_spec hx138).1 (idxm_lt hx138)) ?_
                refine TS.nil ?_
                refine TO.at ?_
                refine TO.stEl (i := x86) (j := x101.toNat) (off := 0) (us := [.bool b122]) b122 rfl rfl hx114 ksizeB_4_1_true rfl rfl rfl (idx_spec hx138).2 rfl (by simp [Value.oneCell']) rfl ?_
                refine TO.code ?_
                refine TC.region ?_
                refine TO.s rfl rfl rfl (StepS.move rfl) ?_
                refine TO.s rfl rfl rfl (StepS.ari rfl rfl rfl) ?_
                refine TO.s rfl rfl rfl (StepS.assign rfl) ?_
                cases hb111
                refine TO.nil fun a w e s => ?_
                exact ⟨v99, hs100, e.sub (lk_of_allIn ⟨rfl, rfl, rfl, rfl, rfl, trivial⟩), s⟩
              · replace hb111 := cond_f hc112 hb111
                cases hb111
                refine TC.exit rfl fun a w e s => ?_
                exact ⟨v99, hs100, e.sub (lk_of_allIn ⟨rfl, rfl, rfl, rfl, trivial⟩), s⟩
            · exact fun a w e s => ⟨v84, hs85, e.sub (lk_of_allIn ⟨rfl, rfl, rfl, rfl, rfl, trivial⟩), s⟩
            · rintro y106 rfl a w ⟨v107, hs108, he, hs⟩
              dsimp only [Ctl.on] at hb96
              refine TC.use ?_ he hs
              refine TC.region ?_
              refine TO.s rfl rfl rfl (StepS.move rfl) ?_
              refine TO.s rfl rfl rfl (StepS.ari rfl rfl rfl) ?_
              refine TO.s rfl rfl rfl (StepS.assign rfl) ?_
              cases hb96
              refine TO.nil fun a w e s => ?_
              exact ⟨v107, hs108, e.sub (lk_of_allIn ⟨rfl, rfl, rfl, rfl, trivial⟩), s⟩
            · rintro r rfl
              exact fun a w h => h.elim
          · replace hb96 := cond_f hc97 hb96
            cases hb96
            refine TC.exit rfl fun a w e s => ?_
            exact ⟨v84, hs85, e.sub (lk_of_allIn ⟨rfl, rfl, rfl, trivial⟩), s⟩
        · exact fun a w e s => ⟨v69, hs70, e.sub (lk_of_allIn ⟨rfl, rfl, rfl, rfl, trivial⟩), s⟩
        · rintro y91 rfl a w ⟨v92, hs93, he, hs⟩
          dsimp only [Ctl.on] at hb81
          refine TC.use ?_ he hs
          refine TC.region ?_
          refine TO.s rfl rfl rfl (StepS.move rfl) ?_
          refine TO.s rfl rfl rfl (StepS.ari rfl rfl rfl) ?_
          refine TO.s rfl rfl rfl (StepS.assign rfl) ?_
          cases hb81
          refine TO.nil fun a w e s => ?_
          exact ⟨v92, hs93, e.sub (lk_of_allIn ⟨rfl, rfl, rfl, trivial⟩), s⟩
        · rintro r rfl
          exact fun a w h => h.elim
      · replace hb81 := cond_f hc82 hb81
        cases hb81
        refine TC.exit rfl fun a w e s => ?_
        exact ⟨v69, hs70, e.sub (lk_of_allIn ⟨rfl, trivial⟩), s⟩
    · exact fun a w e s => ⟨v15, hs16, e.sub (lk_of_allIn ⟨rfl, rfl, rfl, trivial⟩), s⟩
    · rintro y76 rfl a w ⟨v77, hs78, he, hs⟩
      dsimp only [Ctl.on] at hm
      refine TC.use ?_ he hs
      refine TC.k ?_
      refine TC.region ?_
      refine TO.s rfl rfl rfl (StepS.move rfl) ?_
      refine TO.s rfl rfl rfl (StepS.assign rfl) ?_
      refine TO.code ?_
      cases hm
      refine TC.ret fun a w e s => ?_
      refine FRet.mk1 (P := Try.prog) (fn := Try.f18) (t := 2) e rfl rfl ?_
      refine ⟨_, _, rfl, ⟨(v77), (hs78), rfl, rfl⟩, ?_⟩
      refine s.mono fun _ s => ?_
      replace s := Sat.front 0 rfl s
      exact s
    · rintro r rfl
      exact fun a w h => h.elim
  · rintro r rfl
    exact fun a w h => h.elim

set_option maxRecDepth 100000 in
theorem C27 {B : World} {L : List HP} {a0 : List (Int × Int × Int)} {h0 : Value} {r0 : List Int} (e0 : Ent L (Rd 3 h0 (a0.map cTiii))) (hm : F27 a0 = some r0) {w : World} (st : St B L w) : Calls Try.prog 27 #[h0] w (fun e w' => ∃ v M, e = .returned v ∧ (∃ (qv1 : Value), v = qv1 ∧ M = (OwnS 3 1 qv1 (r0.map cI) :: L)) ∧ St B M w') := by
  refine calls_of (N := 116) (L := L) (args := [h0]) Try.func27 rfl rfl rfl ?_ st
  dsimp only [F27] at hm
  refine TC.k ?_
  refine TC.region ?_
  refine TO.s rfl rfl rfl (StepS.assign rfl) ?_
  refine TO.code ?_
  refine TC.k ?_
  refine TC.region ?_
  refine TO.s rfl rfl rfl (StepS.move rfl) ?_
  obtain ⟨r2, hc3, hm⟩ := bind_some hm
  refine TO.callO kcallB_18_true rfl rfl rfl (fun _ st => C18 e0 hc3 st) ?_
  rintro v4 _ ⟨_, hs5, rfl, rfl⟩
  refine TO.s rfl rfl rfl (StepS.assign rfl) ?_
  refine TO.code ?_
  refine TC.k ?_
  refine TC.region ?_
  refine TO.s rfl rfl rfl (StepS.move rfl) ?_
  refine TO.s rfl rfl rfl (StepS.lenm rfl e0.tl ksliceB_22_58_3_true rfl) ?_
  obtain ⟨y7, hk8, hm⟩ := bind_some hm
  refine TO.mkS (f := cI) (za := 0) kelemB_34_3_1_8_true kinfo_3_bind_zero_some_I_0 rfl (by decide) rfl rfl hk8 rfl fun v9 => ?_
  refine TO.s rfl rfl rfl (StepS.assign rfl) ?_
  refine TO.code ?_
  refine TC.k ?_
  refine TC.k ?_
  refine TC.region ?_
  refine TO.s rfl rfl rfl (StepS.move rfl) ?_
  refine TO.s rfl rfl rfl (StepS.lenm rfl e0.tl.tl ksliceB_22_58_3_true rfl) ?_
  refine TO.s rfl rfl rfl (StepS.ari rfl rfl rfl) ?_
  refine TO.s rfl rfl rfl (StepS.assign rfl) ?_
  refine TO.code ?_
  obtain ⟨o19, hw20, hm⟩ := bind_some hm
  refine TC.loop hw20 (fun (y11, x13) => fun a w => ∃ v12 : Value, Mid 116 B [(0, h0), (3, v4), (4, v12), (5, I x13)] (OwnS 3 1 v12 (y11.map cI) :: SS 28 4 1 cB v4 hs5 (r2) :: L) a w) (fun y17 => fun a w => ∃ v18 : Value, Mid 116 B [(0, h0), (3, v4), (4, v18)] (OwnS 3 1 v18 (y17.map cI) :: SS 28 4 1 cB v4 hs5 (r2) :: L) a w) (fun (_ : Unit) _ _ => False) ?_ ?_ ?_ ?_
  · rintro ⟨y11, x13⟩ o19r hb21 a w ⟨v12, he, hs⟩
    dsimp only [F27_L0] at hb21
    refine TC.use ?_ he hs
    refine TC.k ?_
    refine TC.k ?_
    refine TC.region ?_
    refine TO.s rfl rfl rfl (StepS.move rfl) ?_
    refine TO.s rfl rfl rfl (StepS.cmp rfl rfl rfl) ?_
    refine TO.code ?_
    refine TC.cond rfl (fun hc22 => ?_) (fun hc22 => ?_)
    · replace hb21 := cond_t hc22 hb21
      refine TC.skipk ?_
      refine TC.k ?_
      refine TC.block ?_
      refine TC.k ?_
      refine TC.k ?_
      refine TC.region ?_
      refine TO.s rfl rfl rfl (StepS.move rfl) ?_
      refine TO.s rfl rfl rfl (StepS.ari rfl rfl rfl) ?_
      refine TO.s rfl rfl rfl (StepS.assign rfl) ?_
      refine TO.code ?_
      obtain ⟨o31, hw32, hb21⟩ := bind_some hb21
      refine TC.loop hw32 (fun (y23, x25) => fun a w => ∃ v24 : Value, Mid 116 B [(0, h0), (3, v4), (4, v24), (5, I x13), (6, I x25)] (OwnS 3 1 v24 (y23.map cI) :: SS 28 4 1 cB v4 hs5 (r2) :: L) a w) (fun y29 => fun a w => ∃ v30 : Value, Mid 116 B [(0, h0), (3, v4), (4, v30), (5, I x13)] (OwnS 3 1 v30 (y29.map cI) :: SS 28 4 1 cB v4 hs5 (r2) :: L) a w) (fun (_ : Unit) _ _ => False) ?_ ?_ ?_ ?_
      · rintro ⟨y23, x25⟩ o31r hb33 a w ⟨v24, he, hs⟩
        dsimp only [F27_L1] at hb33
        refine TC.use ?_ he hs
        refine TC.k ?_
        refine TC.k ?_
        refine TC.region ?_
        refine TO.s rfl rfl rfl (StepS.move rfl) ?_
        refine TO.s rfl rfl rfl (StepS.move rfl) ?_
        refine TO.s rfl rfl rfl (StepS.lenm rfl e0.tl.tl ksliceB_22_58_3_true rfl) ?_
        refine TO.s rfl rfl rfl (StepS.cmp rfl rfl rfl) ?_
        refine TO.code ?_
        refine TC.cond rfl (fun hc34 => ?_) (fun hc34 => ?_)
        · replace hb33 := cond_t hc34 hb33
          refine TC.skipk ?_
          refine TC.k ?_
          obtain ⟨y35, hj37, hb33⟩ := bind_some hb33
          refine TC.cutM (fun a w => ∃ v36 : Value, Mid 116 B [(0, h0), (3, v4), (4, v36), (5, I x13), (6, I x25)] (OwnS 3 1 v36 (y35.map cI) :: SS 28 4 1 cB v4 hs5 (r2) :: L) a w) ?_ ?_
          · refine TC.block ?_
            refine TC.k ?_
            refine TC.region_still kfollows_mixedOrders_true (by kernel_rfl) ?_
            refine TS.s rfl rfl rfl (StepS.move rfl) ?_
            refine TS.s rfl rfl rfl (StepS.move rfl) ?_
            obtain ⟨x38, hx39, hj37⟩ := bind_some hj37
            refine TS.s rfl rfl rfl (StepS.idxRR rfl rfl (SS.rr (Ent.at 1 rfl)) ksliceB_29_28_1_true hx39) ?_
            refine TS.s rfl rfl rfl (StepS.ldRR rfl (SS.rr (Ent.at 1 rfl)) kscalB_28_true hx39) ?_
            refine TS.s rfl rfl rfl (StepS.move rfl) ?_
            obtain ⟨x41, hx42, hj37⟩ := bind_some hj37
            refine TS.s rfl rfl rfl (StepS.idx rfl rfl (RR.row (SS.rr (Ent.at 1 rfl)) hx39) ksliceB_28_4_1_true (idx_spec hx42).1 (idxm_lt hx42)) ?_
            refine TS.s rfl rfl rfl (StepS.ld0 rfl (RR.row (SS.rr (Ent.at 1 rfl)) hx39) kscalB_4_true rfl (idxm hx42) rfl) ?_
            refine TS.s rfl rfl rfl (StepS.move rfl) ?_
            obtain ⟨b44, hj45, hj37⟩ := bind_some hj37
            refine TS.mid1 10 49 (.bool b44) ?_ ?_
            · refine bcase (x41) (fun hb43 => ?_) (fun hb43 => ?_)
              · replace hj45 := cond_t hb43 hj45
                refine TS.sw rfl rfl rfl hb43 rfl rfl (StepS.move rfl) ?_
                refine TS.sw rfl rfl rfl hb43 rfl rfl (StepS.move rfl) ?_
                obtain ⟨x46, hx47, hj45⟩ := bind_some hj45
                refine TS.sw rfl rfl rfl hb43 rfl rfl (StepS.idx rfl rfl (OwnS.rd (Ent.at 0 rfl)) ksliceB_34_3_1_true (idx_spec hx47).1 (idxm_lt hx47)) ?_
                refine TS.sw rfl rfl rfl hb43 rfl rfl (StepS.ld0 rfl (OwnS.rd (Ent.at 0 rfl)) kscalB_3_true rfl (idxm hx47) rfl) ?_
                refine TS.sw rfl rfl rfl hb43 rfl rfl (StepS.move rfl) ?_
                refine TS.sw rfl rfl rfl hb43 rfl rfl (StepS.move rfl) ?_
                obtain ⟨x48, hx49, hj45⟩ := bind_some hj45
                refine TS.sw rfl rfl rfl hb43 rfl rfl (StepS.idx rfl rfl (OwnS.rd (Ent.at 0 rfl)) ksliceB_34_3_1_true (idx_spec hx49).1 (idxm_lt hx49)) ?_
                refine TS.sw rfl rfl rfl hb43 rfl rfl (StepS.ld0 rfl (OwnS.rd (Ent.at 0 rfl)) kscalB_3_true rfl (idxm hx49) rfl) ?_
                refine TS.sw rfl rfl rfl hb43 rfl rfl (StepS.cmp rfl rfl rfl) ?_
                cases hj45
                refine TS.s rfl rfl rfl (StepS.pickT rfl hb43 rfl) ?_
                exact TS.up1 10 0 rfl rfl rfl rfl
              · replace hj45 := cond_f hb43 hj45
                cases hj45
                refine TS.skip rfl rfl rfl (skipF hb43) rfl rfl ?_
                refine TS.skip rfl rfl rfl (skipF hb43) rfl rfl ?_
                refine TS.skip rfl rfl rfl (skipF hb43) rfl rfl ?_
                refine TS.skip rfl rfl rfl (skipF hb43) rfl rfl ?_
                refine TS.skip rfl rfl rfl (skipF hb43) rfl rfl ?_
                refine TS.skip rfl rfl rfl (skipF hb43) rfl rfl ?_
                refine TS.skip rfl rfl rfl (skipF hb43) rfl rfl ?_
                refine TS.skip rfl rfl rfl (skipF hb43) rfl rfl ?_
                refine TS.skip rfl rfl rfl (skipF hb43) rfl rfl ?_
                refine TS.s rfl rfl rfl (StepS.pickF rfl hb43 rfl) ?_
                exact TS.up1 10 0 rfl rfl rfl rfl
            refine TS.code ?_
            refine TC.cond rfl (fun hc50 => ?_) (fun hc50 => ?_)
            · replace hj37 := cond_t hc50 hj37
              refine TC.region ?_
              refine TO.s rfl rfl rfl (StepS.move rfl) ?_
              refine TO.s rfl rfl rfl (StepS.move rfl) ?_
              refine TO.s rfl rfl rfl (StepS.move rfl) ?_
              refine TO.s rfl rfl rfl (StepS.move rfl) ?_
              obtain ⟨x51, hx52, hj37⟩ := bind_some hj37
              refine TO.s rfl rfl rfl (StepS.idx rfl rfl (OwnS.rd (Ent.at 0 rfl)) ksliceB_34_3_1_true (idx_spec hx52).1 (idxm_lt hx52)) ?_
              refine TO.s rfl rfl rfl (StepS.ld0 rfl (OwnS.rd (Ent.at 0 rfl)) kscalB_3_true rfl (idxm hx52) rfl) ?_
              obtain ⟨x53, hx54, hj37⟩ := bind_some hj37
              refine TO.s rfl rfl rfl (StepS.idx rfl rfl (OwnS.rd (Ent.at 0 rfl)) ksliceB_34_3_1_true (idx_spec hx54).1 (idxm_lt hx54)) ?_
              refine TO.stO (i := x13.toNat) (off := 0) (us := [I x51]) 0 x51 rfl rfl rfl ksizeB_3_1_true rfl rfl rfl (idx_spec hx54).2 rfl (by simp [Value.oneCell']) rfl ?_
              cases hj37
              refine TO.nil fun a w e s => ?_
              exact ⟨v24, e.sub (lk_of_allIn ⟨rfl, rfl, rfl, rfl, rfl, trivial⟩), s⟩
            · replace hj37 := cond_f hc50 hj37
              cases hj37
              refine TC.skip fun a w e s => ?_
              exact ⟨v24, e.sub (lk_of_allIn ⟨rfl, rfl, rfl, rfl, rfl, trivial⟩), s⟩
          · intro a w ⟨v36, he, hs⟩
            refine TC.use ?_ he hs
            refine TC.region ?_
            refine TO.s rfl rfl rfl (StepS.move rfl) ?_
            refine TO.s rfl rfl rfl (StepS.ari rfl rfl rfl) ?_
            refine TO.s rfl rfl rfl (StepS.assign rfl) ?_
            cases hb33
            refine TO.nil fun a w e s => ?_
            exact ⟨v36, e.sub (lk_of_allIn ⟨rfl, rfl, rfl, rfl, rfl, trivial⟩), s⟩
        · replace hb33 := cond_f hc34 hb33
          cases hb33
          refine TC.exit rfl fun a w e s => ?_
          exact ⟨v24, e.sub (lk_of_allIn ⟨rfl, rfl, rfl, rfl, trivial⟩), s⟩
      · exact fun a w e s => ⟨v12, e.sub (lk_of_allIn ⟨rfl, rfl, rfl, rfl, rfl, trivial⟩), s⟩
      · rintro y29 rfl a w ⟨v30, he, hs⟩
        dsimp only [Ctl.on] at hb21
        refine TC.use ?_ he hs
        refine TC.region ?_
        refine TO.s rfl rfl rfl (StepS.move rfl) ?_
        refine TO.s rfl rfl rfl (StepS.move rfl) ?_
        refine TO.s rfl rfl rfl (StepS.move rfl) ?_
        refine TO.s rfl rfl rfl (StepS.move rfl) ?_
        obtain ⟨x55, hx56, hb21⟩ := bind_some hb21
        refine TO.s rfl rfl rfl (StepS.idx rfl rfl (OwnS.rd (Ent.at 0 rfl)) ksliceB_34_3_1_true (idx_spec hx56).1 (idxm_lt hx56)) ?_
        refine TO.s rfl rfl rfl (StepS.ld0 rfl (OwnS.rd (Ent.at 0 rfl)) kscalB_3_true rfl (idxm hx56) rfl) ?_
        refine TO.s rfl rfl rfl (StepS.ari rfl rfl rfl) ?_
        obtain ⟨x57, hx58, hb21⟩ := bind_some hb21
        refine TO.s rfl rfl rfl (StepS.idx rfl rfl (OwnS.rd (Ent.at 0 rfl)) ksliceB_34_3_1_true (idx_spec hx58).1 (idxm_lt hx58)) ?_
        refine TO.stO (i := x13.toNat) (off := 0) (us := [I (w64 (x55 + 1))]) 0 (w64 (x55 + 1)) rfl rfl rfl ksizeB_3_1_true rfl rfl rfl (idx_spec hx58).2 rfl (by simp [Value.oneCell']) rfl ?_
        refine TO.code ?_
        refine TC.region ?_
        refine TO.s rfl rfl rfl (StepS.move rfl) ?_
        refine TO.s rfl rfl rfl (StepS.ari rfl rfl rfl) ?_
        refine TO.s rfl rfl rfl (StepS.assign rfl) ?_
        cases hb21
        refine TO.nil fun a w e s => ?_
        exact ⟨v30, e.sub (lk_of_allIn ⟨rfl, rfl, rfl, rfl, trivial⟩), s⟩
      · rintro r rfl
        exact fun a w h => h.elim
    · replace hb21 := cond_f hc22 hb21
      cases hb21
      refine TC.exit rfl fun a w e s => ?_
      exact ⟨v12, e.sub (lk_of_allIn ⟨rfl, rfl, rfl, trivial⟩), s⟩
  · exact fun a w e s => ⟨v9, e.sub (lk_of_allIn ⟨rfl, rfl, rfl, rfl, trivial⟩), s⟩
  · rintro y17 rfl a w ⟨v18, he, hs⟩
    dsimp only [Ctl.on] at hm
    refine TC.use ?_ he hs
    refine TC.k ?_
    refine TC.region ?_
    refine TO.s rfl rfl rfl (StepS.assign rfl) ?_
    refine TO.code ?_
    refine TC.k ?_
    refine TC.k ?_
    refine TC.region ?_
    refine TO.s rfl rfl rfl (StepS.move rfl) ?_
    refine TO.s rfl rfl rfl (StepS.lenm rfl (OwnS.rd (Ent.at 0 rfl)) ksliceB_34_3_1_true rfl) ?_
    refine TO.s rfl rfl rfl (StepS.move rfl) ?_
    refine TO.code ?_
    obtain ⟨o64, hw65, hm⟩ := bind_some hm
    refine TC.loop hw65 (fun (x59, x60) => fun a w => Mid 116 B [(0, h0), (3, v4), (4, v18), (7, I x59), (65, v18), (66, I (y17.length : Int)), (67, I x60)] (OwnS 3 1 v18 (y17.map cI) :: SS 28 4 1 cB v4 hs5 (r2) :: L) a w) (fun x63 => fun a w => Mid 116 B [(0, h0), (3, v4), (4, v18), (7, I x63)] (OwnS 3 1 v18 (y17.map cI) :: SS 28 4 1 cB v4 hs5 (r2) :: L) a w) (fun (_ : Unit) _ _ => False) ?_ ?_ ?_ ?_
    · rintro ⟨x59, x60⟩ o64r hb66 a w ⟨he, hs⟩
      dsimp only [F27_L2] at hb66
      refine TC.use ?_ he hs
      refine TC.k ?_
      refine TC.region ?_
      refine TO.s rfl rfl rfl (StepS.cmp rfl rfl rfl) ?_
      refine TO.code ?_
      refine TC.k ?_
      refine TC.cond rfl (fun hc67 => ?_) (fun hc67 => ?_)
      · replace hb66 := cond_t hc67 hb66
        refine TC.skipk ?_
        refine TC.k ?_
        obtain ⟨x68, hj69, hb66⟩ := bind_some hb66
        refine TC.cutM (fun a w => Mid 116 B [(0, h0), (3, v4), (4, v18), (7, I x68), (65, v18), (66, I (y17.length : Int)), (67, I x60)] (OwnS 3 1 v18 (y17.map cI) :: SS 28 4 1 cB v4 hs5 (r2) :: L) a w) ?_ ?_
        · refine TC.block ?_
          refine TC.k ?_
          refine TC.region ?_
          obtain ⟨x70, hx71, hj69⟩ := bind_some hj69
          refine TO.s rfl rfl rfl (StepS.idx rfl rfl (OwnS.rd (Ent.at 0 rfl)) ksliceB_34_3_1_true (idx_spec hx71).1 (idxm_lt hx71)) ?_
          refine TO.s rfl rfl rfl (StepS.ld0 rfl (OwnS.rd (Ent.at 0 rfl)) kscalB_3_true rfl (idxm hx71) rfl) ?_
          refine TO.s rfl rfl rfl (StepS.assign rfl) ?_
          refine TO.code ?_
          refine TC.k ?_
          refine TC.region ?_
          refine TO.s rfl rfl rfl (StepS.move rfl) ?_
          refine TO.s rfl rfl rfl (StepS.move rfl) ?_
          refine TO.s rfl rfl rfl (StepS.cmp rfl rfl rfl) ?_
          refine TO.code ?_
          refine TC.cond rfl (fun hc72 => ?_) (fun hc72 => ?_)
          · replace hj69 := cond_t hc72 hj69
            refine TC.region ?_
            refine TO.s rfl rfl rfl (StepS.move rfl) ?_
            refine TO.s rfl rfl rfl (StepS.assign rfl) ?_
            cases hj69
            refine TO.nil fun a w e s => ?_
            exact ⟨e.sub (lk_of_allIn ⟨rfl, rfl, rfl, rfl, rfl, rfl, rfl, trivial⟩), s⟩
          · replace hj69 := cond_f hc72 hj69
            cases hj69
            refine TC.skip fun a w e s => ?_
            exact ⟨e.sub (lk_of_allIn ⟨rfl, rfl, rfl, rfl, rfl, rfl, rfl, trivial⟩), s⟩
        · intro a w ⟨he, hs⟩
          refine TC.use ?_ he hs
          refine TC.region ?_
          refine TO.s rfl rfl rfl (StepS.ari rfl rfl rfl) ?_
          refine TO.s rfl rfl rfl (StepS.move rfl) ?_
          cases hb66
          refine TO.nil fun a w e s => ?_
          exact ⟨e.sub (lk_of_allIn ⟨rfl, rfl, rfl, rfl, rfl, rfl, rfl, trivial⟩), s⟩
      · replace hb66 := cond_f hc67 hb66
        cases hb66
        refine TC.exit rfl fun a w e s => ?_
        exact ⟨e.sub (lk_of_allIn ⟨rfl, rfl, rfl, rfl, trivial⟩), s⟩
    · exact fun a w e s => ⟨e.sub (lk_of_allIn ⟨rfl, rfl, rfl, rfl, rfl, rfl, rfl, trivial⟩), s⟩
    · rintro x63 rfl a w ⟨he, hs⟩
      dsimp only [Ctl.on] at hm
      refine TC.use ?_ he hs
      refine TC.k ?_
      refine TC.region ?_
      refine TO.s rfl rfl rfl (StepS.assign rfl) ?_
      refine TO.code ?_
      refine TC.k ?_
      obtain ⟨o84, hw85, hm⟩ := bind_some hm
      refine TC.loop hw85 (fun (y75, x76) => fun a w => ∃ v73 : Value, Mid 116 B [(0, h0), (3, v4), (4, v18), (7, I x76), (10, v73)] (OwnS 3 1 v73 (y75.map cI) :: OwnS 3 1 v18 (y17.map cI) :: SS 28 4 1 cB v4 hs5 (r2) :: L) a w) (fun y83 => fun a w => ∃ v81 : Value, Mid 116 B [(10, v81)] (OwnS 3 1 v81 (y83.map cI) :: OwnS 3 1 v18 (y17.map cI) :: SS 28 4 1 cB v4 hs5 (r2) :: L) a w) (fun (_ : Unit) _ _ => False) ?_ ?_ ?_ ?_
      · rintro ⟨y75, x76⟩ o84r hb86 a w ⟨v73, he, hs⟩
        dsimp only [F27_L3] at hb86
        refine TC.use ?_ he hs
        refine TC.k ?_
        refine TC.k ?_
        refine TC.region ?_
        refine TO.s rfl rfl rfl (StepS.move rfl) ?_
        refine TO.s rfl rfl rfl (StepS.cmp rfl rfl rfl) ?_
        refine TO.code ?_
        refine TC.cond rfl (fun hc87 => ?_) (fun hc87 => ?_)
        · replace hb86 := cond_t hc87 hb86
          refine TC.skipk ?_
          refine TC.block ?_
          refine TC.k ?_
          refine TC.k ?_
          refine TC.region ?_
          refine TO.s rfl rfl rfl (StepS.assign rfl) ?_
          refine TO.code ?_
          obtain ⟨o92, hw93, hb86⟩ := bind_some hb86
          refine TC.loop hw93 (fun x88 => fun a w => Mid 116 B [(0, h0), (3, v4), (4, v18), (7, I x76), (10, v73), (11, I x88)] (OwnS 3 1 v73 (y75.map cI) :: OwnS 3 1 v18 (y17.map cI) :: SS 28 4 1 cB v4 hs5 (r2) :: L) a w) (fun y90 => fun a w => ∃ v91 : Value, Mid 116 B [(0, h0), (3, v4), (4, v18), (7, I x76), (10, v91)] (OwnS 3 1 v91 (y90.map cI) :: OwnS 3 1 v18 (y17.map cI) :: SS 28 4 1 cB v4 hs5 (r2) :: L) a w) (fun (_ : Unit) _ _ => False) ?_ ?_ ?_ ?_
          · rintro x88 o92r hb94 a w ⟨he, hs⟩
            dsimp only [F27_L4] at hb94
            refine TC.use ?_ he hs
            refine TC.k ?_
            refine TC.k ?_
            refine TC.region ?_
            refine TO.s rfl rfl rfl (StepS.move rfl) ?_
            refine TO.s rfl rfl rfl (StepS.move rfl) ?_
            refine TO.s rfl rfl rfl (StepS.lenm rfl e0.tl.tl.tl ksliceB_22_58_3_true rfl) ?_
            refine TO.s rfl rfl rfl (StepS.cmp rfl rfl rfl) ?_
            refine TO.code ?_
            refine TC.cond rfl (fun hc95 => ?_) (fun hc95 => ?_)
            · replace hb94 := cond_t hc95 hb94
              refine TC.skipk ?_
              refine TC.k ?_
              refine TC.block ?_
              refine TC.k ?_
              refine TC.region ?_
              refine TO.s rfl rfl rfl (StepS.move rfl) ?_
              refine TO.s rfl rfl rfl (StepS.move rfl) ?_
              obtain ⟨x96, hx97, hb94⟩ := bind_some hb94
              refine TO.s rfl rfl rfl (StepS.idx rfl rfl (OwnS.rd (Ent.at 1 rfl)) ksliceB_34_3_1_true (idx_spec hx97).1 (idxm_lt hx97)) ?_
              refine TO.s rfl rfl rfl (StepS.ld0 rfl (OwnS.rd (Ent.at 1 rfl)) kscalB_3_true rfl (idxm hx97) rfl) ?_
              refine TO.s rfl rfl rfl (StepS.move rfl) ?_
              refine TO.s rfl rfl rfl (StepS.cmp rfl rfl rfl) ?_
              refine TO.s rfl rfl rfl (StepS.move rfl) ?_
              obtain ⟨b99, hj100, hb94⟩ := bind_some hb94
              refine TO.mid1 18 108 (.bool b99) ?_ ?_
              · refine bcase ((x96 == x76)) (fun hb98 => ?_) (fun hb98 => ?_)
                · replace hj100 := cond_t hb98 hj100
                  refine TO.sw rfl rfl rfl hb98 rfl rfl (StepS.move rfl) ?_
                  refine TO.sw rfl rfl rfl hb98 rfl rfl (StepS.lenm rfl (OwnS.rd (Ent.at 0 rfl)) ksliceB_34_3_1_true rfl) ?_
                  refine TO.sw rfl rfl rfl hb98 rfl rfl (StepS.cmp rfl rfl rfl) ?_
                  refine TO.sw rfl rfl rfl hb98 rfl rfl (StepS.move rfl) ?_
                  obtain ⟨b102, hj103, hj100⟩ := bind_some hj100
                  refine TO.mid1 13 107 (.bool b102) ?_ ?_
                  · refine bcase (((y75.length : Int) == 0)) (fun hb101 => ?_) (fun hb101 => ?_)
                    · replace hj103 := cond_t hb101 hj103
                      cases hj103
                      refine TO.skip rfl rfl rfl (skipT hb101) rfl rfl ?_
                      refine TO.skip rfl rfl rfl (skipT hb101) rfl rfl ?_
                      refine TO.skip rfl rfl rfl (skipT hb101) rfl rfl ?_
                      refine TO.skip rfl rfl rfl (skipT hb101) rfl rfl ?_
                      refine TO.skip rfl rfl rfl (skipT hb101) rfl rfl ?_
                      refine TO.skip rfl rfl rfl (skipT hb101) rfl rfl ?_
                      refine TO.skip rfl rfl rfl (skipT hb101) rfl rfl ?_
                      refine TO.skip rfl rfl rfl (skipT hb101) rfl rfl ?_
                      refine TO.skip rfl rfl rfl (skipT hb101) rfl rfl ?_
                      refine TO.skip rfl rfl rfl (skipT hb101) rfl rfl ?_
                      refine TO.skip rfl rfl rfl (skipT hb101) rfl rfl ?_
                      refine TO.skip rfl rfl rfl (skipT hb101) rfl rfl ?_
                      refine TO.sw rfl rfl rfl hb98 rfl rfl (StepS.pickT rfl hb101 rfl) ?_
                      exact TO.up1 13 0 rfl rfl rfl rfl
                    · replace hj103 := cond_f hb101 hj103
                      refine TO.sw rfl rfl rfl hb101 rfl rfl (StepS.move rfl) ?_
                      refine TO.sw rfl rfl rfl hb101 rfl rfl (StepS.move rfl) ?_
                      refine TO.sw rfl rfl rfl hb101 rfl rfl (StepS.move rfl) ?_
                      refine TO.sw rfl rfl rfl hb101 rfl rfl (StepS.lenm rfl (OwnS.rd (Ent.at 0 rfl)) ksliceB_34_3_1_true rfl) ?_
                      refine TO.sw rfl rfl rfl hb101 rfl rfl (StepS.ari rfl rfl rfl) ?_
                      obtain ⟨x104, hx105, hj103⟩ := bind_some hj103
                      refine TO.sw rfl rfl rfl hb101 rfl rfl (StepS.idx rfl rfl (OwnS.rd (Ent.at 0 rfl)) ksliceB_34_3_1_true (idx_spec hx105).1 (idxm_lt hx105)) ?_
                      refine TO.sw rfl rfl rfl hb101 rfl rfl (StepS.ld0 rfl (OwnS.rd (Ent.at 0 rfl)) kscalB_3_true rfl (idxm hx105) rfl) ?_
                      obtain ⟨x106, hx107, hj103⟩ := bind_some hj103
                      refine TO.sw rfl rfl rfl hb101 rfl rfl (StepS.idxRR rfl rfl (SS.rr (Ent.at 2 rfl)) ksliceB_29_28_1_true hx107) ?_
                      refine TO.sw rfl rfl rfl hb101 rfl rfl (StepS.ldRR rfl (SS.rr (Ent.at 2 rfl)) kscalB_28_true hx107) ?_
                      refine TO.sw rfl rfl rfl hb101 rfl rfl (StepS.move rfl) ?_
                      obtain ⟨x109, hx110, hj103⟩ := bind_some hj103
                      refine TO.sw rfl rfl rfl hb101 rfl rfl (StepS.idx rfl rfl (RR.row (SS.rr (Ent.at 2 rfl)) hx107) ksliceB_28_4_1_true (idx_spec hx110).1 (idxm_lt hx110)) ?_
                      refine TO.sw rfl rfl rfl hb101 rfl rfl (StepS.ld0 rfl (RR.row (SS.rr (Ent.at 2 rfl)) hx107) kscalB_4_true rfl (idxm hx110) rfl) ?_
                      cases hj103
                      refine TO.sw rfl rfl rfl hb98 rfl rfl (StepS.pickF rfl hb101 rfl) ?_
                      exact TO.up1 13 0 rfl rfl rfl rfl
                  cases hj100
                  refine TO.s rfl rfl rfl (StepS.pickT rfl hb98 rfl) ?_
                  exact TO.up1 6 0 rfl rfl rfl rfl
                · replace hj100 := cond_f hb98 hj100
                  cases hj100
                  refine TO.skip rfl rfl rfl (skipF hb98) rfl rfl ?_
                  refine TO.skip rfl rfl rfl (skipF hb98) rfl rfl ?_
                  refine TO.skip rfl rfl rfl (skipF hb98) rfl rfl ?_
                  refine TO.skip rfl rfl rfl (skipF hb98) rfl rfl ?_
                  refine TO.skip rfl rfl rfl skipU rfl rfl ?_
                  refine TO.skip rfl rfl rfl skipU rfl rfl ?_
                  refine TO.skip rfl rfl rfl skipU rfl rfl ?_
                  refine TO.skip rfl rfl rfl skipU rfl rfl ?_
                  refine TO.skip rfl rfl rfl skipU rfl rfl ?_
                  refine TO.skip rfl rfl rfl skipU rfl rfl ?_
                  refine TO.skip rfl rfl rfl skipU rfl rfl ?_
                  refine TO.skip rfl rfl rfl skipU rfl rfl ?_
                  refine TO.skip rfl rfl rfl skipU rfl rfl ?_
                  refine TO.skip rfl rfl rfl skipU rfl rfl ?_
                  refine TO.skip rfl rfl rfl skipU rfl rfl ?_
                  refine TO.skip rfl rfl rfl skipU rfl rfl ?_
                  refine TO.skip rfl rfl rfl (skipF hb98) rfl rfl ?_
                  refine TO.s rfl rfl rfl (StepS.pickF rfl hb98 rfl) ?_
                  exact TO.up1 18 0 rfl rfl rfl rfl
              refine TO.code ?_
              refine TC.cond rfl (fun hc111 => ?_) (fun hc111 => ?_)
              · replace hb94 := cond_t hc111 hb94
                refine TC.k ?_
                refine TC.region ?_
                refine TO.s rfl rfl rfl (StepS.move rfl) ?_
                refine TO.s rfl rfl rfl (StepS.move rfl) ?_
                refine TO.litS (f := cI) ([x88] : List Int) kelemB_34_3_1_8_true kinfo_3_bind_zero_some_I_0 rfl rfl (fun _ => rfl) rfl rfl (by kernel_rfl) rfl fun v112 => ?_
                obtain ⟨y114, hk115, hb94⟩ := bind_some hb94
                refine TO.app (k := 1) (f := cI) kelemB_34_3_1_8_true (by decide) rfl rfl rfl (OwnS.rd (Ent.at 0 rfl)) hk115 (fun x c hc => by simp [Value.oneCell'] at hc ⊢; first | (obtain rfl := hc; rfl) | (rcases hc with rfl <;> rfl)) rfl rfl fun v116 => ?_
                refine TO.s rfl rfl rfl (StepS.assign rfl) ?_
                refine TO.code ?_
                cases hb94
                refine TC.exit rfl fun a w e s => ?_
                exact ⟨v116, e.sub (lk_of_allIn ⟨rfl, rfl, rfl, rfl, rfl, trivial⟩), s.mono fun _ => Sat.dropN 1⟩
              · replace hb94 := cond_f hc111 hb94
                refine TC.skipk ?_
                refine TC.region ?_
                refine TO.s rfl rfl rfl (StepS.move rfl) ?_
                refine TO.s rfl rfl rfl (StepS.ari rfl rfl rfl) ?_
                refine TO.s rfl rfl rfl (StepS.assign rfl) ?_
                cases hb94
                refine TO.nil fun a w e s => ?_
                exact ⟨e.sub (lk_of_allIn ⟨rfl, rfl, rfl, rfl, rfl, rfl, trivial⟩), s⟩
            · replace hb94 := cond_f hc95 hb94
              cases hb94
              refine TC.exit rfl fun a w e s => ?_
              exact ⟨v73, e.sub (lk_of_allIn ⟨rfl, rfl, rfl, rfl, rfl, trivial⟩), s⟩
          · exact fun a w e s => ⟨e.sub (lk_of_allIn ⟨rfl, rfl, rfl, rfl, rfl, rfl, trivial⟩), s⟩
          · rintro y90 rfl a w ⟨v91, he, hs⟩
            dsimp only [Ctl.on] at hb86
            refine TC.use ?_ he hs
            refine TC.region ?_
            refine TO.s rfl rfl rfl (StepS.move rfl) ?_
            refine TO.s rfl rfl rfl (StepS.ari rfl rfl rfl) ?_
            refine TO.s rfl rfl rfl (StepS.assign rfl) ?_
            cases hb86
            refine TO.nil fun a w e s => ?_
            exact ⟨v91, e.sub (lk_of_allIn ⟨rfl, rfl, rfl, rfl, rfl, trivial⟩), s⟩
          · rintro r rfl
            exact fun a w h => h.elim
        · replace hb86 := cond_f hc87 hb86
          cases hb86
          refine TC.exit rfl fun a w e s => ?_
          exact ⟨v73, e.sub (lk_of_allIn ⟨rfl, trivial⟩), s⟩
      · exact fun a w e s => ⟨.slice none 0 0, e.sub (lk_of_allIn ⟨rfl, rfl, rfl, rfl, rfl, trivial⟩), s.mono fun _ s => (by replace s := Sat.front 1 rfl s; replace s := Sat.front 1 rfl s; replace s := Sat.nilS (e := 3) (sz := 1) (f := cI) s; exact s)⟩
      · rintro y83 rfl a w ⟨v81, he, hs⟩
        dsimp only [Ctl.on] at hm
        refine TC.use ?_ he hs
        refine TC.k ?_
        refine TC.region ?_
        refine TO.s rfl rfl rfl (StepS.move rfl) ?_
        refine TO.s rfl rfl rfl (StepS.assign rfl) ?_
        refine TO.code ?_
        cases hm
        refine TC.ret fun a w e s => ?_
        refine FRet.mk1 (P := Try.prog) (fn := Try.f27) (t := 2) e rfl rfl ?_
        refine ⟨_, _, rfl, ⟨(v81), rfl, rfl⟩, ?_⟩
        refine s.mono fun _ s => ?_
        replace s := Sat.front 0 rfl s
        replace s := Sat.erase 1 s
        replace s := Sat.erase 1 s
        exact s
      · rintro r rfl
        exact fun a w h => h.elim
    · rintro r rfl
      exact fun a w h => h.elim
  · rintro r rfl
    exact fun a w h => h.elim

set_option maxRecDepth 100000 in
theorem C24 {B : World} {L : List HP} {a0 : List Int} {a1 : List Int} {h0 : Value} {h1 : Value} {r0 : Bool} (e0 : Ent L (Rd 1 h0 (a0.map cI))) (e1 : Ent L (Rd 1 h1 (a1.map cI))) (hm : F24 a0 a1 = some r0) {w : World} (st : St B L w) : Calls Try.prog 24 #[h0, h1] w (fun e w' => (e = .returned (.bool r0) ∧ St B (L) w')) := by
  refine calls_of (N := 26) (L := L) (args := [h0, h1]) Try.func24 rfl rfl rfl ?_ st
  dsimp only [F24] at hm
  refine TC.k ?_
  refine TC.region ?_
  refine TO.s rfl rfl rfl (StepS.assign rfl) ?_
  refine TO.code ?_
  refine TC.k ?_
  refine TC.k ?_
  refine TC.region ?_
  refine TO.s rfl rfl rfl (StepS.move rfl) ?_
  refine TO.s rfl rfl rfl (StepS.lenm rfl e0 ksliceB_34_3_1_true rfl) ?_
  refine TO.s rfl rfl rfl (StepS.move rfl) ?_
  refine TO.s rfl rfl rfl (StepS.lenm rfl e1 ksliceB_34_3_1_true rfl) ?_
  refine TO.s rfl rfl rfl (StepS.cmp rfl rfl rfl) ?_
  refine TO.code ?_
  refine TC.cond rfl (fun hc1 => ?_) (fun hc1 => ?_)
  · replace hm := cond_t hc1 hm
    refine TC.k ?_
    refine TC.region ?_
    refine TO.s rfl rfl rfl (StepS.assign rfl) ?_
    refine TO.code ?_
    cases hm
    refine TC.ret fun a w e s => ?_
    refine FRet.mk1 (P := Try.prog) (fn := Try.f24) (t := 4) e rfl rfl ?_
    exact ⟨rfl, s.mono fun _ => Sat.dropN 0⟩
  · replace hm := cond_f hc1 hm
    refine TC.skipk ?_
    refine TC.k ?_
    refine TC.k ?_
    refine TC.region ?_
    refine TO.s rfl rfl rfl (StepS.assign rfl) ?_
    refine TO.code ?_
    obtain ⟨o4, hw5, hm⟩ := bind_some hm
    refine TC.loop hw5 (fun x2 => fun a w => Mid 26 B [(0, h0), (1, h1), (5, I x2)] (L) a w) (fun _ => fun a w => Mid 26 B [] (L) a w) (fun r0 => FRet Try.prog Try.f24 (fun e w' => (e = .returned (.bool r0) ∧ St B (L) w'))) ?_ ?_ ?_ ?_
    · rintro x2 o4r hb6 a w ⟨he, hs⟩
      dsimp only [F24_L0] at hb6
      refine TC.use ?_ he hs
      refine TC.k ?_
      refine TC.k ?_
      refine TC.region ?_
      refine TO.s rfl rfl rfl (StepS.move rfl) ?_
      refine TO.s rfl rfl rfl (StepS.move rfl) ?_
      refine TO.s rfl rfl rfl (StepS.lenm rfl e0 ksliceB_34_3_1_true rfl) ?_
      refine TO.s rfl rfl rfl (StepS.cmp rfl rfl rfl) ?_
      refine TO.code ?_
      refine TC.cond rfl (fun hc7 => ?_) (fun hc7 => ?_)
      · replace hb6 := cond_t hc7 hb6
        refine TC.skipk ?_
        refine TC.k ?_
        refine TC.block ?_
        refine TC.k ?_
        refine TC.region_still kfollows_mixedOrders_true (by kernel_rfl) ?_
        refine TS.s rfl rfl rfl (StepS.move rfl) ?_
        refine TS.s rfl rfl rfl (StepS.move rfl) ?_
        obtain ⟨x8, hx9, hb6⟩ := bind_some hb6
        refine TS.s rfl rfl rfl (StepS.idx rfl rfl e0 ksliceB_34_3_1_true (idx_spec hx9).1 (idxm_lt hx9)) ?_
        refine TS.s rfl rfl rfl (StepS.ld0 rfl e0 kscalB_3_true rfl (idxm hx9) rfl) ?_
        refine TS.s rfl rfl rfl (StepS.move rfl) ?_
        refine TS.s rfl rfl rfl (StepS.move rfl) ?_
        obtain ⟨x10, hx11, hb6⟩ := bind_some hb6
        refine TS.s rfl rfl rfl (StepS.idx rfl rfl e1 ksliceB_34_3_1_true (idx_spec hx11).1 (idxm_lt hx11)) ?_
        refine TS.s rfl rfl rfl (StepS.ld0 rfl e1 kscalB_3_true rfl (idxm hx11) rfl) ?_
        refine TS.s rfl rfl rfl (StepS.cmp rfl rfl rfl) ?_
        refine TS.code ?_
        refine TC.cond rfl (fun hc12 => ?_) (fun hc12 => ?_)
        · replace hb6 := cond_t hc12 hb6
          refine TC.k ?_
          refine TC.region ?_
          refine TO.s rfl rfl rfl (StepS.assign rfl) ?_
          refine TO.code ?_
          cases hb6
          refine TC.ret fun a w e s => ?_
          refine FRet.mk1 (P := Try.prog) (fn := Try.f24) (t := 4) e rfl rfl ?_
          exact ⟨rfl, s.mono fun _ => Sat.dropN 0⟩
        · replace hb6 := cond_f hc12 hb6
          refine TC.skipk ?_
          refine TC.region ?_
          refine TO.s rfl rfl rfl (StepS.move rfl) ?_
          refine TO.s rfl rfl rfl (StepS.ari rfl rfl rfl) ?_
          refine TO.s rfl rfl rfl (StepS.assign rfl) ?_
          cases hb6
          refine TO.nil fun a w e s => ?_
          exact ⟨e.sub (lk_of_allIn ⟨rfl, rfl, rfl, trivial⟩), s⟩
      · replace hb6 := cond_f hc7 hb6
        cases hb6
        refine TC.exit rfl fun a w e s => ?_
        exact ⟨e.sub (lk_of_allIn trivial), s⟩
    · exact fun a w e s => ⟨e.sub (lk_of_allIn ⟨rfl, rfl, rfl, trivial⟩), s⟩
    · rintro _ rfl a w ⟨he, hs⟩
      dsimp only [Ctl.on] at hm
      refine TC.use ?_ he hs
      refine TC.k ?_
      refine TC.region ?_
      refine TO.s rfl rfl rfl (StepS.assign rfl) ?_
      refine TO.code ?_
      cases hm
      refine TC.ret fun a w e s => ?_
      refine FRet.mk1 (P := Try.prog) (fn := Try.f24) (t := 4) e rfl rfl ?_
      exact ⟨rfl, s.mono fun _ => Sat.dropN 0⟩
    · rintro r rfl
      cases hm
      exact fun a w h => h

set_option maxRecDepth 100000 in
theorem C8 {B : World} {L : List HP} {a0 : Int} {a1 : List (Int × Int × Int)} {h1 : Value} {r0 : Bool} (e1 : Ent L (Rd 3 h1 (a1.map cTiii))) (hm : F8 a0 a1 = some r0) {w : World} (st : St B L w) : Calls Try.prog 8 #[I a0, h1] w (fun e w' => (e = .returned (.bool r0) ∧ St B (L) w')) := by
  refine calls_of (N := 35) (L := L) (args := [I a0, h1]) Try.func8 rfl rfl rfl ?_ st
  dsimp only [F8] at hm
  refine TC.k ?_
  refine TC.region ?_
  refine TO.s rfl rfl rfl (StepS.assign rfl) ?_
  refine TO.code ?_
  refine TC.k ?_
  refine TC.region ?_
  refine TO.s rfl rfl rfl (StepS.move rfl) ?_
  refine TO.s rfl rfl rfl (StepS.move rfl) ?_
  obtain ⟨⟨r1, r2⟩, hc3, hm⟩ := bind_some hm
  refine TO.callO kcallB_26_true rfl rfl rfl (fun _ st => C26 e1 hc3 st) ?_
  rintro _ _ ⟨v4, rfl, rfl⟩
  refine TO.s rfl rfl rfl (StepS.move rfl) ?_
  refine TO.s rfl rfl rfl (StepS.extract rfl rfl) ?_
  refine TO.s rfl rfl rfl (StepS.extract rfl rfl) ?_
  refine TO.s rfl rfl rfl (StepS.assign rfl) ?_
  refine TO.s rfl rfl rfl (StepS.assign rfl) ?_
  refine TO.code ?_
  refine TC.k ?_
  refine TC.region ?_
  refine TO.s rfl rfl rfl (StepS.move rfl) ?_
  refine TO.s rfl rfl rfl (StepS.move rfl) ?_
  obtain ⟨r6, hc7, hm⟩ := bind_some hm
  refine TO.q rfl rfl rfl (StepQ.call kcallB_16_true rfl rfl (fun _ st => C16 e1.tl hc7 st)) ?_
  refine TO.s rfl rfl rfl (StepS.assign rfl) ?_
  refine TO.code ?_
  refine TC.k ?_
  refine TC.k ?_
  refine TC.region ?_
  refine TO.s rfl rfl rfl (StepS.move rfl) ?_
  refine TO.s rfl rfl rfl (StepS.cmp rfl rfl rfl) ?_
  refine TO.code ?_
  refine TC.cond rfl (fun hc8 => ?_) (fun hc8 => ?_)
  · replace hm := cond_t hc8 hm
    refine TC.k ?_
    refine TC.region ?_
    refine TO.s rfl rfl rfl (StepS.move rfl) ?_
    refine TO.s rfl rfl rfl (StepS.move rfl) ?_
    refine TO.s rfl rfl rfl (StepS.cmp rfl rfl rfl) ?_
    refine TO.s rfl rfl rfl (StepS.move rfl) ?_
    refine TO.mid1 4 26 (.bool ((r2 == r6) && ((r1.length : Int) == 0))) ?_ ?_
    · refine bcase ((r2 == r6)) (fun hb9 => ?_) (fun hb9 => ?_)
      · refine TO.sw rfl rfl rfl hb9 rfl rfl (StepS.move rfl) ?_
        refine TO.sw rfl rfl rfl hb9 rfl rfl (StepS.lenm rfl (OwnS.rd (Ent.at 0 rfl)) ksliceB_34_3_1_true rfl) ?_
        refine TO.sw rfl rfl rfl hb9 rfl rfl (StepS.cmp rfl rfl rfl) ?_
        refine TO.s rfl rfl rfl (StepS.pickT rfl hb9 rfl) ?_
        exact TO.up1 4 0 rfl rfl (by rw [hb9]; rfl) rfl
      · refine TO.skip rfl rfl rfl (skipF hb9) rfl rfl ?_
        refine TO.skip rfl rfl rfl (skipF hb9) rfl rfl ?_
        refine TO.skip rfl rfl rfl (skipF hb9) rfl rfl ?_
        refine TO.s rfl rfl rfl (StepS.pickF rfl hb9 rfl) ?_
        exact TO.up1 4 0 rfl rfl (by rw [hb9]; rfl) rfl
    refine TO.s rfl rfl rfl (StepS.assign rfl) ?_
    refine TO.code ?_
    cases hm
    refine TC.ret fun a w e s => ?_
    refine FRet.mk1 (P := Try.prog) (fn := Try.f8) (t := 4) e rfl rfl ?_
    exact ⟨rfl, s.mono fun _ => Sat.dropN 1⟩
  · replace hm := cond_f hc8 hm
    refine TC.skipk ?_
    refine TC.k ?_
    refine TC.region ?_
    refine TO.s rfl rfl rfl (StepS.move rfl) ?_
    refine TO.s rfl rfl rfl (StepS.cmp rfl rfl rfl) ?_
    refine TO.s rfl rfl rfl (StepS.move rfl) ?_
    obtain ⟨b11, hj12, hm⟩ := bind_some hm
    refine TO.mid1 5 34 (.bool b11) ?_ ?_
    · refine bcase ((r2 == 0)) (fun hb10 => ?_) (fun hb10 => ?_)
      · replace hj12 := cond_t hb10 hj12
        refine TO.sw rfl rfl rfl hb10 rfl rfl (StepS.move rfl) ?_
        refine TO.sw rfl rfl rfl hb10 rfl rfl (StepS.move rfl) ?_
        obtain ⟨r13, hc14, hj12⟩ := bind_some hj12
        refine TO.callOw rfl rfl hb10 kcallB_27_true rfl rfl rfl (fun _ st => C27 e1.tl hc14 st) ?_
        rintro v15 _ ⟨_, rfl, rfl⟩
        obtain ⟨r17, hc18, hj12⟩ := bind_some hj12
        refine TO.qw rfl rfl rfl hb10 rfl rfl (StepQ.call kcallB_24_true rfl rfl (fun _ st => C24 (OwnS.rd (Ent.at 1 rfl)) (OwnS.rd (Ent.at 0 rfl)) hc18 st)) ?_
        cases hj12
        refine TO.s rfl rfl rfl (StepS.pickT rfl hb10 rfl) ?_
        exact TO.up1 5 1 rfl rfl rfl rfl
      · replace hj12 := cond_f hb10 hj12
        cases hj12
        refine TO.skip rfl rfl rfl (skipF hb10) rfl rfl ?_
        refine TO.skip rfl rfl rfl (skipF hb10) rfl rfl ?_
        refine TO.skip rfl rfl rfl (skipF hb10) rfl rfl ?_
        refine TO.skip rfl rfl rfl (skipF hb10) rfl rfl ?_
        refine TO.s rfl rfl rfl (StepS.pickF rfl hb10 rfl) ?_
        exact TO.up1 5 0 rfl rfl rfl rfl
    refine TO.s rfl rfl rfl (StepS.assign rfl) ?_
    refine TO.code ?_
    cases hm
    refine TC.ret fun a w e s => ?_
    refine FRet.mk1 (P := Try.prog) (fn := Try.f8) (t := 4) e rfl rfl ?_
    exact ⟨rfl, s.mono fun _ => Sat.dropN 1⟩
end Go.Proofs.Ytmfidlalejdikaa
