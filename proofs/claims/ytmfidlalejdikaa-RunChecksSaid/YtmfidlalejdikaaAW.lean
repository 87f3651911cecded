/-
  The walks: each Go function returns what its model says. Written by a program (gen.py).
-/
import Derived.Test.YtmfidlalejdikaaProg
import Derived.KernelRfl
import Derived.Test.YtmfidlalejdikaaAM
namespace Go.Proofs.Ytmfidlalejdikaa
open Go Go.Bk
set_option linter.unusedVariables false
theorem ksliceB_22_58_3_true : sliceB Try.prog 22 58 3 = true := by kernel_rfl
theorem kaggB_58_3_true : aggB Try.prog 58 3 = true := by kernel_rfl
theorem kinfo_58_bind_zero_some_agg_I_0_I_0_I_0 : (Try.prog.info? 58).bind (·.zero) = some (.agg #[I 0, I 0, I 0]) := by kernel_rfl
theorem ksizeB_58_3_true : sizeB Try.prog 58 3 = true := by kernel_rfl
theorem kfieldB_58_0_0_true : fieldB Try.prog 58 0 0 = true := by kernel_rfl
theorem kscalB_3_true : scalB Try.prog 3 = true := by kernel_rfl
theorem kfieldB_58_1_1_true : fieldB Try.prog 58 1 1 = true := by kernel_rfl
theorem kfieldB_58_2_2_true : fieldB Try.prog 58 2 2 = true := by kernel_rfl
theorem kmapB_59_3_3_true : mapB Try.prog 59 3 3 = true := by kernel_rfl
theorem kcallB_15_true : callB Try.prog 15 = true := by kernel_rfl
theorem kcallB_16_true : callB Try.prog 16 = true := by kernel_rfl

set_option maxRecDepth 100000 in
theorem C15 {B : World} {L : List HP} {a0 : Int} {a1 : List (Int × Int × Int)} {h1 : Value} {r0 : Int} (e1 : Ent L (Rd 3 h1 (a1.map cTiii))) (hm : F15 a0 a1 = some r0) {w : World} (st : St B L w) : Calls Try.prog 15 #[I a0, h1] w (fun e w' => (e = .returned (I r0) ∧ St B (L) w')) := by
  refine calls_of (N := 73) (L := L) (args := [I a0, h1]) Try.func15 rfl rfl rfl ?_ st
  dsimp only [F15] at hm
  refine TC.k ?_
  refine TC.region ?_
  refine TO.s rfl rfl rfl (StepS.assign rfl) ?_
  refine TO.code ?_
  refine TC.k ?_
  refine TC.k ?_
  refine TC.region ?_
  refine TO.s rfl rfl rfl (StepS.move rfl) ?_
  refine TO.s rfl rfl rfl (StepS.cmp rfl rfl rfl) ?_
  refine TO.s rfl rfl rfl (StepS.move rfl) ?_
  refine TO.mid1 3 13 (.bool ((decide (a0 < 1)) || (decide (a0 > 6)))) ?_ ?_
  · refine bcase ((decide (a0 < 1))) (fun hb1 => ?_) (fun hb1 => ?_)
    · refine TO.skip rfl rfl rfl (skipT hb1) rfl rfl ?_
      refine TO.skip rfl rfl rfl (skipT hb1) rfl rfl ?_
      refine TO.s rfl rfl rfl (StepS.pickT rfl hb1 rfl) ?_
      exact TO.up1 3 0 rfl rfl (by rw [hb1]; rfl) rfl
    · refine TO.sw rfl rfl rfl hb1 rfl rfl (StepS.move rfl) ?_
      refine TO.sw rfl rfl rfl hb1 rfl rfl (StepS.cmp rfl rfl rfl) ?_
      refine TO.s rfl rfl rfl (StepS.pickF rfl hb1 rfl) ?_
      exact TO.up1 3 0 rfl rfl (by rw [hb1]; rfl) rfl
  refine TO.s rfl rfl rfl (StepS.move rfl) ?_
  refine TO.mid1 4 18 (.bool (((decide (a0 < 1)) || (decide (a0 > 6))) || (decide ((a1.length : Int) > 30)))) ?_ ?_
  · refine bcase (((decide (a0 < 1)) || (decide (a0 > 6)))) (fun hb2 => ?_) (fun hb2 => ?_)
    · refine TO.skip rfl rfl rfl (skipT hb2) rfl rfl ?_
      refine TO.skip rfl rfl rfl (skipT hb2) rfl rfl ?_
      refine TO.skip rfl rfl rfl (skipT hb2) rfl rfl ?_
      refine TO.s rfl rfl rfl (StepS.pickT rfl hb2 rfl) ?_
      exact TO.up1 4 0 rfl rfl (by rw [hb2]; rfl) rfl
    · refine TO.sw rfl rfl rfl hb2 rfl rfl (StepS.move rfl) ?_
      refine TO.sw rfl rfl rfl hb2 rfl rfl (StepS.lenm rfl e1 ksliceB_22_58_3_true rfl) ?_
      refine TO.sw rfl rfl rfl hb2 rfl rfl (StepS.cmp rfl rfl rfl) ?_
      refine TO.s rfl rfl rfl (StepS.pickF rfl hb2 rfl) ?_
      exact TO.up1 4 0 rfl rfl (by rw [hb2]; rfl) rfl
  refine TO.code ?_
  refine TC.cond rfl (fun hc3 => ?_) (fun hc3 => ?_)
  · replace hm := cond_t hc3 hm
    refine TC.k ?_
    refine TC.region ?_
    refine TO.s rfl rfl rfl (StepS.assign rfl) ?_
    refine TO.code ?_
    cases hm
    refine TC.ret fun a w e s => ?_
    refine FRet.mk1 (P := Try.prog) (fn := Try.f15) (t := 4) e rfl rfl ?_
    exact ⟨rfl, s.mono fun _ => Sat.dropN 0⟩
  · replace hm := cond_f hc3 hm
    refine TC.skipk ?_
    refine TC.k ?_
    refine TC.region ?_
    refine TO.mkM rfl fun r4 => ?_
    refine TO.s rfl rfl rfl (StepS.assign rfl) ?_
    refine TO.code ?_
    refine TC.k ?_
    refine TC.k ?_
    refine TC.region ?_
    refine TO.s rfl rfl rfl (StepS.move rfl) ?_
    refine TO.s rfl rfl rfl (StepS.lenm rfl e1.tl ksliceB_22_58_3_true rfl) ?_
    refine TO.s rfl rfl rfl (StepS.move rfl) ?_
    refine TO.code ?_
    obtain ⟨o11, hw12, hm⟩ := bind_some hm
    refine TC.loop hw12 (fun (y6, x7) => fun a w => Mid 73 B [(0, I a0), (5, .map (some r4)), (20, h1), (21, I (a1.length : Int)), (22, I x7)] (Mp r4 (y6) :: L) a w) (fun y10 => fun a w => Mid 73 B [] (Mp r4 (y10) :: L) a w) (fun r0 => FRet Try.prog Try.f15 (fun e w' => (e = .returned (I r0) ∧ St B (L) w'))) ?_ ?_ ?_ ?_
    · rintro ⟨y6, x7⟩ o11r hb13 a w ⟨he, hs⟩
      dsimp only [F15_L0] at hb13
      refine TC.use ?_ he hs
      refine TC.k ?_
      refine TC.region ?_
      refine TO.s rfl rfl rfl (StepS.cmp rfl rfl rfl) ?_
      refine TO.code ?_
      refine TC.k ?_
      refine TC.cond rfl (fun hc14 => ?_) (fun hc14 => ?_)
      · replace hb13 := cond_t hc14 hb13
        refine TC.skipk ?_
        refine TC.k ?_
        refine TC.block ?_
        refine TC.k ?_
        refine TC.region ?_
        obtain ⟨x15, hx16, hb13⟩ := bind_some hb13
        refine TO.s rfl rfl rfl (StepS.idx rfl rfl e1.tl ksliceB_22_58_3_true (idx_spec hx16).1 (idxm_lt hx16)) ?_
        refine TO.s rfl rfl rfl (StepS.ldE rfl e1.tl kaggB_58_3_true rfl (idxm hx16)) ?_
        refine TO.alloc kinfo_58_bind_zero_some_agg_I_0_I_0_I_0 rfl rfl fun b17 => ?_
        refine TO.stB (us := [I x15.1, I x15.2.1, I x15.2.2]) 0 [I x15.1, I x15.2.1, I x15.2.2] rfl rfl rfl ksizeB_58_3_true rfl rfl rfl (by simp [Value.oneCell']) rfl ?_
        refine TO.code ?_
        refine TC.k ?_
        refine TC.block ?_
        refine TC.k ?_
        refine TC.region ?_
        refine TO.s rfl rfl rfl (StepS.fld rfl kfieldB_58_0_0_true) ?_
        refine TO.s rfl rfl rfl (StepS.ldB rfl (Ent.at 0 rfl) kscalB_3_true rfl) ?_
        refine TO.s rfl rfl rfl (StepS.cmp rfl rfl rfl) ?_
        refine TO.s rfl rfl rfl (StepS.move rfl) ?_
        refine TO.mid1 5 35 (.bool ((decide (x15.1 < 0)) || (decide (x15.1 ≥ a0)))) ?_ ?_
        · refine bcase ((decide (x15.1 < 0))) (fun hb18 => ?_) (fun hb18 => ?_)
          · refine TO.skip rfl rfl rfl (skipT hb18) rfl rfl ?_
            refine TO.skip rfl rfl rfl (skipT hb18) rfl rfl ?_
            refine TO.skip rfl rfl rfl (skipT hb18) rfl rfl ?_
            refine TO.skip rfl rfl rfl (skipT hb18) rfl rfl ?_
            refine TO.s rfl rfl rfl (StepS.pickT rfl hb18 rfl) ?_
            exact TO.up1 5 0 rfl rfl (by rw [hb18]; rfl) rfl
          · refine TO.sw rfl rfl rfl hb18 rfl rfl (StepS.fld rfl kfieldB_58_0_0_true) ?_
            refine TO.sw rfl rfl rfl hb18 rfl rfl (StepS.ldB rfl (Ent.at 0 rfl) kscalB_3_true rfl) ?_
            refine TO.sw rfl rfl rfl hb18 rfl rfl (StepS.move rfl) ?_
            refine TO.sw rfl rfl rfl hb18 rfl rfl (StepS.cmp rfl rfl rfl) ?_
            refine TO.s rfl rfl rfl (StepS.pickF rfl hb18 rfl) ?_
            exact TO.up1 5 0 rfl rfl (by rw [hb18]; rfl) rfl
        refine TO.s rfl rfl rfl (StepS.assign rfl) ?_
        refine TO.code ?_
        refine TC.cond rfl (fun hc19 => ?_) (fun hc19 => ?_)
        · replace hb13 := cond_t hc19 hb13
          refine TC.k ?_
          refine TC.region ?_
          refine TO.s rfl rfl rfl (StepS.assign rfl) ?_
          refine TO.code ?_
          cases hb13
          refine TC.ret fun a w e s => ?_
          refine FRet.mk1 (P := Try.prog) (fn := Try.f15) (t := 4) e rfl rfl ?_
          exact ⟨rfl, s.mono fun _ => Sat.dropN 2⟩
        · replace hb13 := cond_f hc19 hb13
          refine TC.k ?_
          refine TC.region ?_
          refine TO.s rfl rfl rfl (StepS.fld rfl kfieldB_58_1_1_true) ?_
          refine TO.s rfl rfl rfl (StepS.ldB rfl (Ent.at 0 rfl) kscalB_3_true rfl) ?_
          refine TO.s rfl rfl rfl (StepS.cmp rfl rfl rfl) ?_
          refine TO.s rfl rfl rfl (StepS.move rfl) ?_
          refine TO.mid1 4 44 (.bool ((decide (x15.2.1 < 1)) || (decide (x15.2.1 > 3)))) ?_ ?_
          · refine bcase ((decide (x15.2.1 < 1))) (fun hb20 => ?_) (fun hb20 => ?_)
            · refine TO.skip rfl rfl rfl (skipT hb20) rfl rfl ?_
              refine TO.skip rfl rfl rfl (skipT hb20) rfl rfl ?_
              refine TO.skip rfl rfl rfl (skipT hb20) rfl rfl ?_
              refine TO.s rfl rfl rfl (StepS.pickT rfl hb20 rfl) ?_
              exact TO.up1 4 0 rfl rfl (by rw [hb20]; rfl) rfl
            · refine TO.sw rfl rfl rfl hb20 rfl rfl (StepS.fld rfl kfieldB_58_1_1_true) ?_
              refine TO.sw rfl rfl rfl hb20 rfl rfl (StepS.ldB rfl (Ent.at 0 rfl) kscalB_3_true rfl) ?_
              refine TO.sw rfl rfl rfl hb20 rfl rfl (StepS.cmp rfl rfl rfl) ?_
              refine TO.s rfl rfl rfl (StepS.pickF rfl hb20 rfl) ?_
              exact TO.up1 4 0 rfl rfl (by rw [hb20]; rfl) rfl
          refine TO.s rfl rfl rfl (StepS.assign rfl) ?_
          refine TO.code ?_
          refine TC.cond rfl (fun hc21 => ?_) (fun hc21 => ?_)
          · replace hb13 := cond_t hc21 hb13
            refine TC.k ?_
            refine TC.region ?_
            refine TO.s rfl rfl rfl (StepS.assign rfl) ?_
            refine TO.code ?_
            cases hb13
            refine TC.ret fun a w e s => ?_
            refine FRet.mk1 (P := Try.prog) (fn := Try.f15) (t := 4) e rfl rfl ?_
            exact ⟨rfl, s.mono fun _ => Sat.dropN 2⟩
          · replace hb13 := cond_f hc21 hb13
            refine TC.k ?_
            refine TC.region ?_
            refine TO.s rfl rfl rfl (StepS.fld rfl kfieldB_58_1_1_true) ?_
            refine TO.s rfl rfl rfl (StepS.ldB rfl (Ent.at 0 rfl) kscalB_3_true rfl) ?_
            refine TO.s rfl rfl rfl (StepS.cmp rfl rfl rfl) ?_
            refine TO.s rfl rfl rfl (StepS.assign rfl) ?_
            refine TO.code ?_
            refine TC.cond rfl (fun hc22 => ?_) (fun hc22 => ?_)
            · replace hb13 := cond_t hc22 hb13
              refine TC.exitk rfl ?_
              refine TC.region ?_
              refine TO.s rfl rfl rfl (StepS.ari rfl rfl rfl) ?_
              refine TO.s rfl rfl rfl (StepS.move rfl) ?_
              cases hb13
              refine TO.nil fun a w e s => ?_
              exact ⟨e.sub (lk_of_allIn ⟨rfl, rfl, rfl, rfl, rfl, trivial⟩), s.mono fun _ => Sat.dropN 1⟩
            · replace hb13 := cond_f hc22 hb13
              refine TC.k ?_
              refine TC.region ?_
              refine TO.s rfl rfl rfl (StepS.fld rfl kfieldB_58_2_2_true) ?_
              refine TO.s rfl rfl rfl (StepS.ldB rfl (Ent.at 0 rfl) kscalB_3_true rfl) ?_
              refine TO.s rfl rfl rfl (StepS.cmp rfl rfl rfl) ?_
              refine TO.s rfl rfl rfl (StepS.move rfl) ?_
              refine TO.mid1 4 57 (.bool ((decide (x15.2.2 < 0)) || (decide (x15.2.2 > 20)))) ?_ ?_
              · refine bcase ((decide (x15.2.2 < 0))) (fun hb23 => ?_) (fun hb23 => ?_)
                · refine TO.skip rfl rfl rfl (skipT hb23) rfl rfl ?_
                  refine TO.skip rfl rfl rfl (skipT hb23) rfl rfl ?_
                  refine TO.skip rfl rfl rfl (skipT hb23) rfl rfl ?_
                  refine TO.s rfl rfl rfl (StepS.pickT rfl hb23 rfl) ?_
                  exact TO.up1 4 0 rfl rfl (by rw [hb23]; rfl) rfl
                · refine TO.sw rfl rfl rfl hb23 rfl rfl (StepS.fld rfl kfieldB_58_2_2_true) ?_
                  refine TO.sw rfl rfl rfl hb23 rfl rfl (StepS.ldB rfl (Ent.at 0 rfl) kscalB_3_true rfl) ?_
                  refine TO.sw rfl rfl rfl hb23 rfl rfl (StepS.cmp rfl rfl rfl) ?_
                  refine TO.s rfl rfl rfl (StepS.pickF rfl hb23 rfl) ?_
                  exact TO.up1 4 0 rfl rfl (by rw [hb23]; rfl) rfl
              refine TO.s rfl rfl rfl (StepS.assign rfl) ?_
              refine TO.code ?_
              refine TC.cond rfl (fun hc24 => ?_) (fun hc24 => ?_)
              · replace hb13 := cond_t hc24 hb13
                refine TC.k ?_
                refine TC.region ?_
                refine TO.s rfl rfl rfl (StepS.assign rfl) ?_
                refine TO.code ?_
                cases hb13
                refine TC.ret fun a w e s => ?_
                refine FRet.mk1 (P := Try.prog) (fn := Try.f15) (t := 4) e rfl rfl ?_
                exact ⟨rfl, s.mono fun _ => Sat.dropN 2⟩
              · replace hb13 := cond_f hc24 hb13
                refine TC.k ?_
                refine TC.region ?_
                refine TO.s rfl rfl rfl (StepS.move rfl) ?_
                refine TO.s rfl rfl rfl (StepS.fld rfl kfieldB_58_2_2_true) ?_
                refine TO.s rfl rfl rfl (StepS.ldB rfl (Ent.at 0 rfl) kscalB_3_true rfl) ?_
                refine TO.s rfl rfl rfl (StepS.look kmapB_59_3_3_true rfl (Ent.at 1 rfl) rfl) ?_
                refine TO.s rfl rfl rfl (StepS.fld rfl kfieldB_58_1_1_true) ?_
                refine TO.s rfl rfl rfl (StepS.ldB rfl (Ent.at 0 rfl) kscalB_3_true rfl) ?_
                refine TO.s rfl rfl rfl (StepS.ari rfl rfl rfl) ?_
                refine TO.s rfl rfl rfl (StepS.cmp rfl rfl rfl) ?_
                refine TO.s rfl rfl rfl (StepS.assign rfl) ?_
                refine TO.code ?_
                refine TC.cond rfl (fun hc25 => ?_) (fun hc25 => ?_)
                · replace hb13 := cond_t hc25 hb13
                  refine TC.k ?_
                  refine TC.region ?_
                  refine TO.s rfl rfl rfl (StepS.assign rfl) ?_
                  refine TO.code ?_
                  cases hb13
                  refine TC.ret fun a w e s => ?_
                  refine FRet.mk1 (P := Try.prog) (fn := Try.f15) (t := 4) e rfl rfl ?_
                  exact ⟨rfl, s.mono fun _ => Sat.dropN 2⟩
                · replace hb13 := cond_f hc25 hb13
                  refine TC.skipk ?_
                  refine TC.region ?_
                  refine TO.s rfl rfl rfl (StepS.move rfl) ?_
                  refine TO.s rfl rfl rfl (StepS.fld rfl kfieldB_58_2_2_true) ?_
                  refine TO.s rfl rfl rfl (StepS.ldB rfl (Ent.at 0 rfl) kscalB_3_true rfl) ?_
                  refine TO.s rfl rfl rfl (StepS.look kmapB_59_3_3_true rfl (Ent.at 1 rfl) rfl) ?_
                  refine TO.s rfl rfl rfl (StepS.ari rfl rfl rfl) ?_
                  refine TO.mset 1 kmapB_59_3_3_true rfl rfl rfl rfl ?_
                  refine TO.code ?_
                  refine TC.region ?_
                  refine TO.s rfl rfl rfl (StepS.ari rfl rfl rfl) ?_
                  refine TO.s rfl rfl rfl (StepS.move rfl) ?_
                  cases hb13
                  refine TO.nil fun a w e s => ?_
                  exact ⟨e.sub (lk_of_allIn ⟨rfl, rfl, rfl, rfl, rfl, trivial⟩), s.mono fun _ => Sat.dropN 1⟩
      · replace hb13 := cond_f hc14 hb13
        cases hb13
        refine TC.exit rfl fun a w e s => ?_
        exact ⟨e.sub (lk_of_allIn trivial), s⟩
    · exact fun a w e s => ⟨e.sub (lk_of_allIn ⟨rfl, rfl, rfl, rfl, rfl, trivial⟩), s⟩
    · rintro y10 rfl a w ⟨he, hs⟩
      dsimp only [Ctl.on] at hm
      refine TC.use ?_ he hs
      refine TC.k ?_
      refine TC.region ?_
      refine TO.s rfl rfl rfl (StepS.assign rfl) ?_
      refine TO.code ?_
      cases hm
      refine TC.ret fun a w e s => ?_
      refine FRet.mk1 (P := Try.prog) (fn := Try.f15) (t := 4) e rfl rfl ?_
      exact ⟨rfl, s.mono fun _ => Sat.dropN 1⟩
    · rintro r rfl
      cases hm
      exact fun a w h => h

set_option maxRecDepth 100000 in
theorem C16 {B : World} {L : List HP} {a0 : Int} {a1 : List (Int × Int × Int)} {h1 : Value} {r0 : Int} (e1 : Ent L (Rd 3 h1 (a1.map cTiii))) (hm : F16 a0 a1 = some r0) {w : World} (st : St B L w) : Calls Try.prog 16 #[I a0, h1] w (fun e w' => (e = .returned (I r0) ∧ St B (L) w')) := by
  refine calls_of (N := 111) (L := L) (args := [I a0, h1]) Try.func16 rfl rfl rfl ?_ st
  dsimp only [F16] at hm
  refine TC.k ?_
  refine TC.region ?_
  refine TO.s rfl rfl rfl (StepS.assign rfl) ?_
  refine TO.code ?_
  refine TC.k ?_
  refine TC.k ?_
  refine TC.region ?_
  refine TO.s rfl rfl rfl (StepS.move rfl) ?_
  refine TO.s rfl rfl rfl (StepS.cmp rfl rfl rfl) ?_
  refine TO.s rfl rfl rfl (StepS.move rfl) ?_
  refine TO.mid1 3 16 (.bool ((decide (a0 < 1)) || (decide (a0 > 6)))) ?_ ?_
  · refine bcase ((decide (a0 < 1))) (fun hb1 => ?_) (fun hb1 => ?_)
    · refine TO.skip rfl rfl rfl (skipT hb1) rfl rfl ?_
      refine TO.skip rfl rfl rfl (skipT hb1) rfl rfl ?_
      refine TO.s rfl rfl rfl (StepS.pickT rfl hb1 rfl) ?_
      exact TO.up1 3 0 rfl rfl (by rw [hb1]; rfl) rfl
    · refine TO.sw rfl rfl rfl hb1 rfl rfl (StepS.move rfl) ?_
      refine TO.sw rfl rfl rfl hb1 rfl rfl (StepS.cmp rfl rfl rfl) ?_
      refine TO.s rfl rfl rfl (StepS.pickF rfl hb1 rfl) ?_
      exact TO.up1 3 0 rfl rfl (by rw [hb1]; rfl) rfl
  refine TO.s rfl rfl rfl (StepS.move rfl) ?_
  refine TO.mid1 4 21 (.bool (((decide (a0 < 1)) || (decide (a0 > 6))) || (decide ((a1.length : Int) > 30)))) ?_ ?_
  · refine bcase (((decide (a0 < 1)) || (decide (a0 > 6)))) (fun hb2 => ?_) (fun hb2 => ?_)
    · refine TO.skip rfl rfl rfl (skipT hb2) rfl rfl ?_
      refine TO.skip rfl rfl rfl (skipT hb2) rfl rfl ?_
      refine TO.skip rfl rfl rfl (skipT hb2) rfl rfl ?_
      refine TO.s rfl rfl rfl (StepS.pickT rfl hb2 rfl) ?_
      exact TO.up1 4 0 rfl rfl (by rw [hb2]; rfl) rfl
    · refine TO.sw rfl rfl rfl hb2 rfl rfl (StepS.move rfl) ?_
      refine TO.sw rfl rfl rfl hb2 rfl rfl (StepS.lenm rfl e1 ksliceB_22_58_3_true rfl) ?_
      refine TO.sw rfl rfl rfl hb2 rfl rfl (StepS.cmp rfl rfl rfl) ?_
      refine TO.s rfl rfl rfl (StepS.pickF rfl hb2 rfl) ?_
      exact TO.up1 4 0 rfl rfl (by rw [hb2]; rfl) rfl
  refine TO.code ?_
  refine TC.cond rfl (fun hc3 => ?_) (fun hc3 => ?_)
  · replace hm := cond_t hc3 hm
    refine TC.k ?_
    refine TC.region ?_
    refine TO.s rfl rfl rfl (StepS.assign rfl) ?_
    refine TO.code ?_
    cases hm
    refine TC.ret fun a w e s => ?_
    refine FRet.mk1 (P := Try.prog) (fn := Try.f16) (t := 4) e rfl rfl ?_
    exact ⟨rfl, s.mono fun _ => Sat.dropN 0⟩
  · replace hm := cond_f hc3 hm
    refine TC.skipk ?_
    refine TC.k ?_
    refine TC.k ?_
    refine TC.region ?_
    refine TO.s rfl rfl rfl (StepS.move rfl) ?_
    refine TO.s rfl rfl rfl (StepS.lenm rfl e1 ksliceB_22_58_3_true rfl) ?_
    refine TO.s rfl rfl rfl (StepS.move rfl) ?_
    refine TO.code ?_
    obtain ⟨o6, hw7, hm⟩ := bind_some hm
    refine TC.loop hw7 (fun x4 => fun a w => Mid 111 B [(0, I a0), (1, h1), (22, h1), (23, I (a1.length : Int)), (24, I x4)] (L) a w) (fun _ => fun a w => Mid 111 B [] (L) a w) (fun r0 => FRet Try.prog Try.f16 (fun e w' => (e = .returned (I r0) ∧ St B (L) w'))) ?_ ?_ ?_ ?_
    · rintro x4 o6r hb8 a w ⟨he, hs⟩
      dsimp only [F16_L0] at hb8
      refine TC.use ?_ he hs
      refine TC.k ?_
      refine TC.region ?_
      refine TO.s rfl rfl rfl (StepS.cmp rfl rfl rfl) ?_
      refine TO.code ?_
      refine TC.k ?_
      refine TC.cond rfl (fun hc9 => ?_) (fun hc9 => ?_)
      · replace hb8 := cond_t hc9 hb8
        refine TC.skipk ?_
        refine TC.k ?_
        refine TC.block ?_
        refine TC.k ?_
        refine TC.region ?_
        refine TO.s rfl rfl rfl (StepS.move rfl) ?_
        obtain ⟨x10, hx11, hb8⟩ := bind_some hb8
        refine TO.s rfl rfl rfl (StepS.idx rfl rfl e1 ksliceB_22_58_3_true (idx_spec hx11).1 (idxm_lt hx11)) ?_
        refine TO.s rfl rfl rfl (StepS.ldE rfl e1 kaggB_58_3_true rfl (idxm hx11)) ?_
        refine TO.alloc kinfo_58_bind_zero_some_agg_I_0_I_0_I_0 rfl rfl fun b12 => ?_
        refine TO.s rfl rfl rfl (StepS.assign rfl) ?_
        refine TO.stB (us := [I x10.1, I x10.2.1, I x10.2.2]) 0 [I x10.1, I x10.2.1, I x10.2.2] rfl rfl rfl ksizeB_58_3_true rfl rfl rfl (by simp [Value.oneCell']) rfl ?_
        refine TO.code ?_
        refine TC.k ?_
        refine TC.k ?_
        refine TC.region ?_
        refine TO.s rfl rfl rfl (StepS.fld rfl kfieldB_58_0_0_true) ?_
        refine TO.s rfl rfl rfl (StepS.ldB rfl (Ent.at 0 rfl) kscalB_3_true rfl) ?_
        refine TO.s rfl rfl rfl (StepS.cmp rfl rfl rfl) ?_
        refine TO.s rfl rfl rfl (StepS.move rfl) ?_
        refine TO.mid1 5 37 (.bool ((decide (x10.1 < 0)) || (decide (x10.1 ≥ a0)))) ?_ ?_
        · refine bcase ((decide (x10.1 < 0))) (fun hb13 => ?_) (fun hb13 => ?_)
          · refine TO.skip rfl rfl rfl (skipT hb13) rfl rfl ?_
            refine TO.skip rfl rfl rfl (skipT hb13) rfl rfl ?_
            refine TO.skip rfl rfl rfl (skipT hb13) rfl rfl ?_
            refine TO.skip rfl rfl rfl (skipT hb13) rfl rfl ?_
            refine TO.s rfl rfl rfl (StepS.pickT rfl hb13 rfl) ?_
            exact TO.up1 5 0 rfl rfl (by rw [hb13]; rfl) rfl
          · refine TO.sw rfl rfl rfl hb13 rfl rfl (StepS.fld rfl kfieldB_58_0_0_true) ?_
            refine TO.sw rfl rfl rfl hb13 rfl rfl (StepS.ldB rfl (Ent.at 0 rfl) kscalB_3_true rfl) ?_
            refine TO.sw rfl rfl rfl hb13 rfl rfl (StepS.move rfl) ?_
            refine TO.sw rfl rfl rfl hb13 rfl rfl (StepS.cmp rfl rfl rfl) ?_
            refine TO.s rfl rfl rfl (StepS.pickF rfl hb13 rfl) ?_
            exact TO.up1 5 0 rfl rfl (by rw [hb13]; rfl) rfl
        refine TO.code ?_
        refine TC.cond rfl (fun hc14 => ?_) (fun hc14 => ?_)
        · replace hb8 := cond_t hc14 hb8
          refine TC.k ?_
          refine TC.region ?_
          refine TO.s rfl rfl rfl (StepS.assign rfl) ?_
          refine TO.code ?_
          cases hb8
          refine TC.ret fun a w e s => ?_
          refine FRet.mk1 (P := Try.prog) (fn := Try.f16) (t := 4) e rfl rfl ?_
          exact ⟨rfl, s.mono fun _ => Sat.dropN 1⟩
        · replace hb8 := cond_f hc14 hb8
          refine TC.skipk ?_
          refine TC.k ?_
          refine TC.k ?_
          refine TC.region ?_
          refine TO.s rfl rfl rfl (StepS.fld rfl kfieldB_58_1_1_true) ?_
          refine TO.s rfl rfl rfl (StepS.ldB rfl (Ent.at 0 rfl) kscalB_3_true rfl) ?_
          refine TO.s rfl rfl rfl (StepS.cmp rfl rfl rfl) ?_
          refine TO.s rfl rfl rfl (StepS.move rfl) ?_
          refine TO.mid1 4 45 (.bool ((decide (x10.2.1 < 1)) || (decide (x10.2.1 > 3)))) ?_ ?_
          · refine bcase ((decide (x10.2.1 < 1))) (fun hb15 => ?_) (fun hb15 => ?_)
            · refine TO.skip rfl rfl rfl (skipT hb15) rfl rfl ?_
              refine TO.skip rfl rfl rfl (skipT hb15) rfl rfl ?_
              refine TO.skip rfl rfl rfl (skipT hb15) rfl rfl ?_
              refine TO.s rfl rfl rfl (StepS.pickT rfl hb15 rfl) ?_
              exact TO.up1 4 0 rfl rfl (by rw [hb15]; rfl) rfl
            · refine TO.sw rfl rfl rfl hb15 rfl rfl (StepS.fld rfl kfieldB_58_1_1_true) ?_
              refine TO.sw rfl rfl rfl hb15 rfl rfl (StepS.ldB rfl (Ent.at 0 rfl) kscalB_3_true rfl) ?_
              refine TO.sw rfl rfl rfl hb15 rfl rfl (StepS.cmp rfl rfl rfl) ?_
              refine TO.s rfl rfl rfl (StepS.pickF rfl hb15 rfl) ?_
              exact TO.up1 4 0 rfl rfl (by rw [hb15]; rfl) rfl
          refine TO.code ?_
          refine TC.cond rfl (fun hc16 => ?_) (fun hc16 => ?_)
          · replace hb8 := cond_t hc16 hb8
            refine TC.k ?_
            refine TC.region ?_
            refine TO.s rfl rfl rfl (StepS.assign rfl) ?_
            refine TO.code ?_
            cases hb8
            refine TC.ret fun a w e s => ?_
            refine FRet.mk1 (P := Try.prog) (fn := Try.f16) (t := 4) e rfl rfl ?_
            exact ⟨rfl, s.mono fun _ => Sat.dropN 1⟩
          · replace hb8 := cond_f hc16 hb8
            refine TC.skipk ?_
            refine TC.k ?_
            refine TC.k ?_
            refine TC.region ?_
            refine TO.s rfl rfl rfl (StepS.fld rfl kfieldB_58_1_1_true) ?_
            refine TO.s rfl rfl rfl (StepS.ldB rfl (Ent.at 0 rfl) kscalB_3_true rfl) ?_
            refine TO.s rfl rfl rfl (StepS.cmp rfl rfl rfl) ?_
            refine TO.code ?_
            refine TC.cond rfl (fun hc17 => ?_) (fun hc17 => ?_)
            · replace hb8 := cond_t hc17 hb8
              refine TC.exitk rfl ?_
              refine TC.region ?_
              refine TO.s rfl rfl rfl (StepS.ari rfl rfl rfl) ?_
              refine TO.s rfl rfl rfl (StepS.move rfl) ?_
              cases hb8
              refine TO.nil fun a w e s => ?_
              exact ⟨e.sub (lk_of_allIn ⟨rfl, rfl, rfl, rfl, rfl, trivial⟩), s.mono fun _ => Sat.dropN 1⟩
            · replace hb8 := cond_f hc17 hb8
              refine TC.skipk ?_
              refine TC.k ?_
              refine TC.k ?_
              refine TC.region ?_
              refine TO.s rfl rfl rfl (StepS.fld rfl kfieldB_58_2_2_true) ?_
              refine TO.s rfl rfl rfl (StepS.ldB rfl (Ent.at 0 rfl) kscalB_3_true rfl) ?_
              refine TO.s rfl rfl rfl (StepS.cmp rfl rfl rfl) ?_
              refine TO.s rfl rfl rfl (StepS.move rfl) ?_
              refine TO.mid1 4 56 (.bool ((decide (x10.2.2 < 0)) || (decide (x10.2.2 > 20)))) ?_ ?_
              · refine bcase ((decide (x10.2.2 < 0))) (fun hb18 => ?_) (fun hb18 => ?_)
                · refine TO.skip rfl rfl rfl (skipT hb18) rfl rfl ?_
                  refine TO.skip rfl rfl rfl (skipT hb18) rfl rfl ?_
                  refine TO.skip rfl rfl rfl (skipT hb18) rfl rfl ?_
                  refine TO.s rfl rfl rfl (StepS.pickT rfl hb18 rfl) ?_
                  exact TO.up1 4 0 rfl rfl (by rw [hb18]; rfl) rfl
                · refine TO.sw rfl rfl rfl hb18 rfl rfl (StepS.fld rfl kfieldB_58_2_2_true) ?_
                  refine TO.sw rfl rfl rfl hb18 rfl rfl (StepS.ldB rfl (Ent.at 0 rfl) kscalB_3_true rfl) ?_
                  refine TO.sw rfl rfl rfl hb18 rfl rfl (StepS.cmp rfl rfl rfl) ?_
                  refine TO.s rfl rfl rfl (StepS.pickF rfl hb18 rfl) ?_
                  exact TO.up1 4 0 rfl rfl (by rw [hb18]; rfl) rfl
              refine TO.code ?_
              refine TC.cond rfl (fun hc19 => ?_) (fun hc19 => ?_)
              · replace hb8 := cond_t hc19 hb8
                refine TC.k ?_
                refine TC.region ?_
                refine TO.s rfl rfl rfl (StepS.assign rfl) ?_
                refine TO.code ?_
                cases hb8
                refine TC.ret fun a w e s => ?_
                refine FRet.mk1 (P := Try.prog) (fn := Try.f16) (t := 4) e rfl rfl ?_
                exact ⟨rfl, s.mono fun _ => Sat.dropN 1⟩
              · replace hb8 := cond_f hc19 hb8
                refine TC.skipk ?_
                refine TC.k ?_
                refine TC.region ?_
                refine TO.s rfl rfl rfl (StepS.assign rfl) ?_
                refine TO.code ?_
                refine TC.k ?_
                refine TC.region ?_
                refine TO.s rfl rfl rfl (StepS.assign rfl) ?_
                refine TO.code ?_
                refine TC.k ?_
                refine TC.k ?_
                refine TC.region ?_
                refine TO.s rfl rfl rfl (StepS.move rfl) ?_
                refine TO.s rfl rfl rfl (StepS.move rfl) ?_
                obtain ⟨y20, hs21, hb8⟩ := bind_some hb8
                obtain ⟨hs21a, hs21b, hs21c, _⟩ := slI_spec hs21
                refine TO.s rfl rfl rfl (StepS.slc rfl e1.tl ksliceB_22_58_3_true rfl rfl hs21a hs21b (by simpa using hs21c)) ?_
                refine TO.s rfl rfl rfl (StepS.lenm rfl (Ent.sub e1.tl hs21) ksliceB_22_58_3_true rfl) ?_
                refine TO.s rfl rfl rfl (StepS.move rfl) ?_
                refine TO.code ?_
                obtain ⟨o31, hw32, hb8⟩ := bind_some hb8
                refine TC.loop hw32 (fun (x23, x24, x25) => fun a w => Mid 111 B [(0, I a0), (1, h1), (6, .pointer (some ⟨b12, 0, none⟩)), (7, I x23), (8, I x24), (22, h1), (23, I (a1.length : Int)), (24, I x4), (59, (subv h1 0 x4 3)), (60, I (y20.length : Int)), (61, I x25)] (Bx b12 58 [I x10.1, I x10.2.1, I x10.2.2] :: L) a w) (fun (x29, x30) => fun a w => Mid 111 B [(0, I a0), (1, h1), (6, .pointer (some ⟨b12, 0, none⟩)), (7, I x29), (8, I x30), (22, h1), (23, I (a1.length : Int)), (24, I x4)] (Bx b12 58 [I x10.1, I x10.2.1, I x10.2.2] :: L) a w) (fun (_ : Unit) _ _ => False) ?_ ?_ ?_ ?_
                · rintro ⟨x23, x24, x25⟩ o31r hb33 a w ⟨he, hs⟩
                  dsimp only [F16_L1] at hb33
                  refine TC.use ?_ he hs
                  refine TC.k ?_
                  refine TC.region ?_
                  refine TO.s rfl rfl rfl (StepS.cmp rfl rfl rfl) ?_
                  refine TO.code ?_
                  refine TC.k ?_
                  refine TC.cond rfl (fun hc34 => ?_) (fun hc34 => ?_)
                  · replace hb33 := cond_t hc34 hb33
                    refine TC.skipk ?_
                    refine TC.k ?_
                    obtain ⟨⟨x35, x36⟩, hj37, hb33⟩ := bind_some hb33
                    refine TC.cutM (fun a w => Mid 111 B [(0, I a0), (1, h1), (6, .pointer (some ⟨b12, 0, none⟩)), (7, I x35), (8, I x36), (22, h1), (23, I (a1.length : Int)), (24, I x4), (59, (subv h1 0 x4 3)), (60, I (y20.length : Int)), (61, I x25)] (Bx b12 58 [I x10.1, I x10.2.1, I x10.2.2] :: L) a w) ?_ ?_
                    · refine TC.block ?_
                      refine TC.k ?_
                      refine TC.region ?_
                      obtain ⟨x38, hx39, hj37⟩ := bind_some hj37
                      refine TO.s rfl rfl rfl (StepS.idx rfl rfl (Ent.sub e1.tl hs21) ksliceB_22_58_3_true (idx_spec hx39).1 (idxm_lt hx39)) ?_
                      refine TO.s rfl rfl rfl (StepS.ldE rfl (Ent.sub e1.tl hs21) kaggB_58_3_true rfl (idxm hx39)) ?_
                      refine TO.alloc kinfo_58_bind_zero_some_agg_I_0_I_0_I_0 rfl rfl fun b40 => ?_
                      refine TO.stB (us := [I x38.1, I x38.2.1, I x38.2.2]) 0 [I x38.1, I x38.2.1, I x38.2.2] rfl rfl rfl ksizeB_58_3_true rfl rfl rfl (by simp [Value.oneCell']) rfl ?_
                      refine TO.code ?_
                      refine TC.k ?_
                      refine TC.k ?_
                      refine TC.region ?_
                      refine TO.s rfl rfl rfl (StepS.fld rfl kfieldB_58_1_1_true) ?_
                      refine TO.s rfl rfl rfl (StepS.ldB rfl (Ent.at 0 rfl) kscalB_3_true rfl) ?_
                      refine TO.s rfl rfl rfl (StepS.cmp rfl rfl rfl) ?_
                      refine TO.s rfl rfl rfl (StepS.move rfl) ?_
                      refine TO.mid1 6 74 (.bool ((x38.2.1 == 2) && (x38.2.2 == x10.2.2))) ?_ ?_
                      · refine bcase ((x38.2.1 == 2)) (fun hb41 => ?_) (fun hb41 => ?_)
                        · refine TO.sw rfl rfl rfl hb41 rfl rfl (StepS.fld rfl kfieldB_58_2_2_true) ?_
                          refine TO.sw rfl rfl rfl hb41 rfl rfl (StepS.ldB rfl (Ent.at 0 rfl) kscalB_3_true rfl) ?_
                          refine TO.sw rfl rfl rfl hb41 rfl rfl (StepS.fld rfl kfieldB_58_2_2_true) ?_
                          refine TO.sw rfl rfl rfl hb41 rfl rfl (StepS.ldB rfl (Ent.at 1 rfl) kscalB_3_true rfl) ?_
                          refine TO.sw rfl rfl rfl hb41 rfl rfl (StepS.cmp rfl rfl rfl) ?_
                          refine TO.s rfl rfl rfl (StepS.pickT rfl hb41 rfl) ?_
                          exact TO.up1 6 0 rfl rfl (by rw [hb41]; rfl) rfl
                        · refine TO.skip rfl rfl rfl (skipF hb41) rfl rfl ?_
                          refine TO.skip rfl rfl rfl (skipF hb41) rfl rfl ?_
                          refine TO.skip rfl rfl rfl (skipF hb41) rfl rfl ?_
                          refine TO.skip rfl rfl rfl (skipF hb41) rfl rfl ?_
                          refine TO.skip rfl rfl rfl (skipF hb41) rfl rfl ?_
                          refine TO.s rfl rfl rfl (StepS.pickF rfl hb41 rfl) ?_
                          exact TO.up1 6 0 rfl rfl (by rw [hb41]; rfl) rfl
                      refine TO.code ?_
                      obtain ⟨x42, hj43, hj37⟩ := bind_some hj37
                      refine TC.cutM (fun a w => Mid 111 B [(0, I a0), (1, h1), (6, .pointer (some ⟨b12, 0, none⟩)), (7, I x42), (8, I x24), (10, .pointer (some ⟨b40, 0, none⟩)), (22, h1), (23, I (a1.length : Int)), (24, I x4), (59, (subv h1 0 x4 3)), (60, I (y20.length : Int)), (61, I x25)] (Bx b40 58 [I x38.1, I x38.2.1, I x38.2.2] :: Bx b12 58 [I x10.1, I x10.2.1, I x10.2.2] :: L) a w) ?_ ?_
                      · refine TC.cond rfl (fun hc44 => ?_) (fun hc44 => ?_)
                        · replace hj43 := cond_t hc44 hj43
                          refine TC.region ?_
                          refine TO.s rfl rfl rfl (StepS.move rfl) ?_
                          refine TO.s rfl rfl rfl (StepS.ari rfl rfl rfl) ?_
                          refine TO.s rfl rfl rfl (StepS.assign rfl) ?_
                          cases hj43
                          refine TO.nil fun a w e s => ?_
                          exact ⟨e.sub (lk_of_allIn ⟨rfl, rfl, rfl, rfl, rfl, rfl, rfl, rfl, rfl, rfl, rfl, rfl, trivial⟩), s⟩
                        · replace hj43 := cond_f hc44 hj43
                          cases hj43
                          refine TC.skip fun a w e s => ?_
                          exact ⟨e.sub (lk_of_allIn ⟨rfl, rfl, rfl, rfl, rfl, rfl, rfl, rfl, rfl, rfl, rfl, rfl, trivial⟩), s⟩
                      · intro a w ⟨he, hs⟩
                        refine TC.use ?_ he hs
                        refine TC.k ?_
                        refine TC.region ?_
                        refine TO.s rfl rfl rfl (StepS.fld rfl kfieldB_58_1_1_true) ?_
                        refine TO.s rfl rfl rfl (StepS.ldB rfl (Ent.at 0 rfl) kscalB_3_true rfl) ?_
                        refine TO.s rfl rfl rfl (StepS.cmp rfl rfl rfl) ?_
                        refine TO.s rfl rfl rfl (StepS.move rfl) ?_
                        refine TO.mid1 6 86 (.bool ((x38.2.1 == 3) && (x38.2.2 == x10.2.2))) ?_ ?_
                        · refine bcase ((x38.2.1 == 3)) (fun hb45 => ?_) (fun hb45 => ?_)
                          · refine TO.sw rfl rfl rfl hb45 rfl rfl (StepS.fld rfl kfieldB_58_2_2_true) ?_
                            refine TO.sw rfl rfl rfl hb45 rfl rfl (StepS.ldB rfl (Ent.at 0 rfl) kscalB_3_true rfl) ?_
                            refine TO.sw rfl rfl rfl hb45 rfl rfl (StepS.fld rfl kfieldB_58_2_2_true) ?_
                            refine TO.sw rfl rfl rfl hb45 rfl rfl (StepS.ldB rfl (Ent.at 1 rfl) kscalB_3_true rfl) ?_
                            refine TO.sw rfl rfl rfl hb45 rfl rfl (StepS.cmp rfl rfl rfl) ?_
                            refine TO.s rfl rfl rfl (StepS.pickT rfl hb45 rfl) ?_
                            exact TO.up1 6 0 rfl rfl (by rw [hb45]; rfl) rfl
                          · refine TO.skip rfl rfl rfl (skipF hb45) rfl rfl ?_
                            refine TO.skip rfl rfl rfl (skipF hb45) rfl rfl ?_
                            refine TO.skip rfl rfl rfl (skipF hb45) rfl rfl ?_
                            refine TO.skip rfl rfl rfl (skipF hb45) rfl rfl ?_
                            refine TO.skip rfl rfl rfl (skipF hb45) rfl rfl ?_
                            refine TO.s rfl rfl rfl (StepS.pickF rfl hb45 rfl) ?_
                            exact TO.up1 6 0 rfl rfl (by rw [hb45]; rfl) rfl
                        refine TO.code ?_
                        refine TC.cond rfl (fun hc46 => ?_) (fun hc46 => ?_)
                        · replace hj37 := cond_t hc46 hj37
                          refine TC.region ?_
                          refine TO.s rfl rfl rfl (StepS.move rfl) ?_
                          refine TO.s rfl rfl rfl (StepS.ari rfl rfl rfl) ?_
                          refine TO.s rfl rfl rfl (StepS.assign rfl) ?_
                          cases hj37
                          refine TO.nil fun a w e s => ?_
                          exact ⟨e.sub (lk_of_allIn ⟨rfl, rfl, rfl, rfl, rfl, rfl, rfl, rfl, rfl, rfl, rfl, trivial⟩), s.mono fun _ => Sat.dropN 1⟩
                        · replace hj37 := cond_f hc46 hj37
                          cases hj37
                          refine TC.skip fun a w e s => ?_
                          exact ⟨e.sub (lk_of_allIn ⟨rfl, rfl, rfl, rfl, rfl, rfl, rfl, rfl, rfl, rfl, rfl, trivial⟩), s.mono fun _ => Sat.dropN 1⟩
                    · intro a w ⟨he, hs⟩
                      refine TC.use ?_ he hs
                      refine TC.region ?_
                      refine TO.s rfl rfl rfl (StepS.ari rfl rfl rfl) ?_
                      refine TO.s rfl rfl rfl (StepS.move rfl) ?_
                      cases hb33
                      refine TO.nil fun a w e s => ?_
                      exact ⟨e.sub (lk_of_allIn ⟨rfl, rfl, rfl, rfl, rfl, rfl, rfl, rfl, rfl, rfl, rfl, trivial⟩), s⟩
                  · replace hb33 := cond_f hc34 hb33
                    cases hb33
                    refine TC.exit rfl fun a w e s => ?_
                    exact ⟨e.sub (lk_of_allIn ⟨rfl, rfl, rfl, rfl, rfl, rfl, rfl, rfl, trivial⟩), s⟩
                · exact fun a w e s => ⟨e.sub (lk_of_allIn ⟨rfl, rfl, rfl, rfl, rfl, rfl, rfl, rfl, rfl, rfl, rfl, trivial⟩), s⟩
                · rintro ⟨x29, x30⟩ rfl a w ⟨he, hs⟩
                  dsimp only [Ctl.on] at hb8
                  refine TC.use ?_ he hs
                  refine TC.k ?_
                  refine TC.region ?_
                  refine TO.s rfl rfl rfl (StepS.fld rfl kfieldB_58_1_1_true) ?_
                  refine TO.s rfl rfl rfl (StepS.ldB rfl (Ent.at 0 rfl) kscalB_3_true rfl) ?_
                  refine TO.s rfl rfl rfl (StepS.cmp rfl rfl rfl) ?_
                  refine TO.s rfl rfl rfl (StepS.move rfl) ?_
                  refine TO.mid1 3 96 (.bool ((x10.2.1 == 2) && (decide (x29 > 0)))) ?_ ?_
                  · refine bcase ((x10.2.1 == 2)) (fun hb47 => ?_) (fun hb47 => ?_)
                    · refine TO.sw rfl rfl rfl hb47 rfl rfl (StepS.move rfl) ?_
                      refine TO.sw rfl rfl rfl hb47 rfl rfl (StepS.cmp rfl rfl rfl) ?_
                      refine TO.s rfl rfl rfl (StepS.pickT rfl hb47 rfl) ?_
                      exact TO.up1 3 0 rfl rfl (by rw [hb47]; rfl) rfl
                    · refine TO.skip rfl rfl rfl (skipF hb47) rfl rfl ?_
                      refine TO.skip rfl rfl rfl (skipF hb47) rfl rfl ?_
                      refine TO.s rfl rfl rfl (StepS.pickF rfl hb47 rfl) ?_
                      exact TO.up1 3 0 rfl rfl (by rw [hb47]; rfl) rfl
                  refine TO.s rfl rfl rfl (StepS.move rfl) ?_
                  refine TO.mid1 12 109 (.bool (((x10.2.1 == 2) && (decide (x29 > 0))) || ((x10.2.1 == 3) && ((x29 == 0) || (decide (x30 > 0)))))) ?_ ?_
                  · refine bcase (((x10.2.1 == 2) && (decide (x29 > 0)))) (fun hb48 => ?_) (fun hb48 => ?_)
                    · refine TO.skip rfl rfl rfl (skipT hb48) rfl rfl ?_
                      refine TO.skip rfl rfl rfl (skipT hb48) rfl rfl ?_
                      refine TO.skip rfl rfl rfl (skipT hb48) rfl rfl ?_
                      refine TO.skip rfl rfl rfl (skipT hb48) rfl rfl ?_
                      refine TO.skip rfl rfl rfl skipU rfl rfl ?_
                      refine TO.skip rfl rfl rfl skipU rfl rfl ?_
                      refine TO.skip rfl rfl rfl skipU rfl rfl ?_
                      refine TO.skip rfl rfl rfl skipU rfl rfl ?_
                      refine TO.skip rfl rfl rfl skipU rfl rfl ?_
                      refine TO.skip rfl rfl rfl skipU rfl rfl ?_
                      refine TO.skip rfl rfl rfl (skipT hb48) rfl rfl ?_
                      refine TO.s rfl rfl rfl (StepS.pickT rfl hb48 rfl) ?_
                      exact TO.up1 12 0 rfl rfl (by rw [hb48]; rfl) rfl
                    · refine TO.sw rfl rfl rfl hb48 rfl rfl (StepS.fld rfl kfieldB_58_1_1_true) ?_
                      refine TO.sw rfl rfl rfl hb48 rfl rfl (StepS.ldB rfl (Ent.at 0 rfl) kscalB_3_true rfl) ?_
                      refine TO.sw rfl rfl rfl hb48 rfl rfl (StepS.cmp rfl rfl rfl) ?_
                      refine TO.sw rfl rfl rfl hb48 rfl rfl (StepS.move rfl) ?_
                      refine TO.mid1 7 108 (.bool ((x10.2.1 == 3) && ((x29 == 0) || (decide (x30 > 0))))) ?_ ?_
                      · refine bcase ((x10.2.1 == 3)) (fun hb49 => ?_) (fun hb49 => ?_)
                        · refine TO.sw rfl rfl rfl hb49 rfl rfl (StepS.move rfl) ?_
                          refine TO.sw rfl rfl rfl hb49 rfl rfl (StepS.cmp rfl rfl rfl) ?_
                          refine TO.sw rfl rfl rfl hb49 rfl rfl (StepS.move rfl) ?_
                          refine TO.mid1 3 107 (.bool ((x29 == 0) || (decide (x30 > 0)))) ?_ ?_
                          · refine bcase ((x29 == 0)) (fun hb50 => ?_) (fun hb50 => ?_)
                            · refine TO.skip rfl rfl rfl (skipT hb50) rfl rfl ?_
                              refine TO.skip rfl rfl rfl (skipT hb50) rfl rfl ?_
                              refine TO.sw rfl rfl rfl hb49 rfl rfl (StepS.pickT rfl hb50 rfl) ?_
                              exact TO.up1 3 0 rfl rfl (by rw [hb50]; rfl) rfl
                            · refine TO.sw rfl rfl rfl hb50 rfl rfl (StepS.move rfl) ?_
                              refine TO.sw rfl rfl rfl hb50 rfl rfl (StepS.cmp rfl rfl rfl) ?_
                              refine TO.sw rfl rfl rfl hb49 rfl rfl (StepS.pickF rfl hb50 rfl) ?_
                              exact TO.up1 3 0 rfl rfl (by rw [hb50]; rfl) rfl
                          refine TO.sw rfl rfl rfl hb48 rfl rfl (StepS.pickT rfl hb49 rfl) ?_
                          exact TO.up1 5 0 rfl rfl (by rw [hb49]; rfl) rfl
                        · refine TO.skip rfl rfl rfl (skipF hb49) rfl rfl ?_
                          refine TO.skip rfl rfl rfl (skipF hb49) rfl rfl ?_
                          refine TO.skip rfl rfl rfl (skipF hb49) rfl rfl ?_
                          refine TO.skip rfl rfl rfl skipU rfl rfl ?_
                          refine TO.skip rfl rfl rfl skipU rfl rfl ?_
                          refine TO.skip rfl rfl rfl (skipF hb49) rfl rfl ?_
                          refine TO.sw rfl rfl rfl hb48 rfl rfl (StepS.pickF rfl hb49 rfl) ?_
                          exact TO.up1 7 0 rfl rfl (by rw [hb49]; rfl) rfl
                      refine TO.s rfl rfl rfl (StepS.pickF rfl hb48 rfl) ?_
                      exact TO.up1 6 0 rfl rfl (by rw [hb48]; rfl) rfl
                  refine TO.code ?_
                  refine TC.cond rfl (fun hc51 => ?_) (fun hc51 => ?_)
                  · replace hb8 := cond_t hc51 hb8
                    refine TC.k ?_
                    refine TC.region ?_
                    refine TO.s rfl rfl rfl (StepS.assign rfl) ?_
                    refine TO.code ?_
                    cases hb8
                    refine TC.ret fun a w e s => ?_
                    refine FRet.mk1 (P := Try.prog) (fn := Try.f16) (t := 4) e rfl rfl ?_
                    exact ⟨rfl, s.mono fun _ => Sat.dropN 1⟩
                  · replace hb8 := cond_f hc51 hb8
                    refine TC.skipk ?_
                    refine TC.region ?_
                    refine TO.s rfl rfl rfl (StepS.ari rfl rfl rfl) ?_
                    refine TO.s rfl rfl rfl (StepS.move rfl) ?_
                    cases hb8
                    refine TO.nil fun a w e s => ?_
                    exact ⟨e.sub (lk_of_allIn ⟨rfl, rfl, rfl, rfl, rfl, trivial⟩), s.mono fun _ => Sat.dropN 1⟩
                · rintro r rfl
                  exact fun a w h => h.elim
      · replace hb8 := cond_f hc9 hb8
        cases hb8
        refine TC.exit rfl fun a w e s => ?_
        exact ⟨e.sub (lk_of_allIn trivial), s⟩
    · exact fun a w e s => ⟨e.sub (lk_of_allIn ⟨rfl, rfl, rfl, rfl, rfl, trivial⟩), s⟩
    · rintro _ rfl a w ⟨he, hs⟩
      dsimp only [Ctl.on] at hm
      refine TC.use ?_ he hs
      refine TC.k ?_
      refine TC.region ?_
      refine TO.s rfl rfl rfl (StepS.assign rfl) ?_
      refine TO.code ?_
      cases hm
      refine TC.ret fun a w e s => ?_
      refine FRet.mk1 (P := Try.prog) (fn := Try.f16) (t := 4) e rfl rfl ?_
      exact ⟨rfl, s.mono fun _ => Sat.dropN 0⟩
    · rintro r rfl
      cases hm
      exact fun a w h => h

set_option maxRecDepth 100000 in
theorem C3 {B : World} {L : List HP} {a0 : Int} {a1 : List (Int × Int × Int)} {h1 : Value} {r0 : Bool} (e1 : Ent L (Rd 3 h1 (a1.map cTiii))) (hm : F3 a0 a1 = some r0) {w : World} (st : St B L w) : Calls Try.prog 3 #[I a0, h1] w (fun e w' => (e = .returned (.bool r0) ∧ St B (L) w')) := by
  refine calls_of (N := 12) (L := L) (args := [I a0, h1]) Try.func3 rfl rfl rfl ?_ st
  dsimp only [F3] at hm
  refine TC.k ?_
  refine TC.region ?_
  refine TO.s rfl rfl rfl (StepS.assign rfl) ?_
  refine TO.code ?_
  refine TC.k ?_
  refine TC.region ?_
  refine TO.s rfl rfl rfl (StepS.move rfl) ?_
  refine TO.s rfl rfl rfl (StepS.move rfl) ?_
  obtain ⟨r1, hc2, hm⟩ := bind_some hm
  refine TO.q rfl rfl rfl (StepQ.call kcallB_15_true rfl rfl (fun _ st => C15 e1 hc2 st)) ?_
  refine TO.s rfl rfl rfl (StepS.move rfl) ?_
  refine TO.s rfl rfl rfl (StepS.move rfl) ?_
  obtain ⟨r3, hc4, hm⟩ := bind_some hm
  refine TO.q rfl rfl rfl (StepQ.call kcallB_16_true rfl rfl (fun _ st => C16 e1 hc4 st)) ?_
  refine TO.s rfl rfl rfl (StepS.cmp rfl rfl rfl) ?_
  refine TO.s rfl rfl rfl (StepS.assign rfl) ?_
  refine TO.code ?_
  cases hm
  refine TC.ret fun a w e s => ?_
  refine FRet.mk1 (P := Try.prog) (fn := Try.f3) (t := 4) e rfl rfl ?_
  exact ⟨rfl, s.mono fun _ => Sat.dropN 0⟩
end Go.Proofs.Ytmfidlalejdikaa
