/-
  The walks: each Go function returns what its model says. Written by a program (gen.py).
-/
import Derived.Test.YtgofkfhkolkfmaaProg
import Derived.KernelRfl
import Derived.Test.YtgofkfhkolkfmaaAW
import Derived.Test.YtgofkfhkolkfmaaBM
namespace Go.Proofs.Ytgofkfhkolkfmaa
open Go Go.Bk
set_option linter.unusedVariables false
set_option linter.unnecessarySimpa false
theorem kinfo_26_bind_zero_some_agg_slice_none_0_0_slice_none_0_0 : (Try.prog.info? 26).bind (·.zero) = some (.agg #[.slice none 0 0, .slice none 0 0]) := by kernel_rfl
theorem ksizeB_26_2_true : sizeB Try.prog 26 2 = true := by kernel_rfl
theorem kelemB_51_37_1_24_true : elemB Try.prog 51 37 1 24 = true := by kernel_rfl
theorem kinfo_37_bind_zero_some_slice_none_0_0 : (Try.prog.info? 37).bind (·.zero) = some (.slice none 0 0) := by kernel_rfl
theorem ksliceB_22_41_4_true : sliceB Try.prog 22 41 4 = true := by kernel_rfl
theorem kaggB_41_4_true : aggB Try.prog 41 4 = true := by kernel_rfl
theorem kinfo_41_bind_zero_some_agg_I_0_I_0_I_0_I_0 : (Try.prog.info? 41).bind (·.zero) = some (.agg #[I 0, I 0, I 0, I 0]) := by kernel_rfl
theorem ksizeB_41_4_true : sizeB Try.prog 41 4 = true := by kernel_rfl
theorem kfieldB_41_0_0_true : fieldB Try.prog 41 0 0 = true := by kernel_rfl
theorem kfieldB_41_1_1_true : fieldB Try.prog 41 1 1 = true := by kernel_rfl
theorem kfieldB_41_2_2_true : fieldB Try.prog 41 2 2 = true := by kernel_rfl
theorem kfieldB_41_3_3_true : fieldB Try.prog 41 3 3 = true := by kernel_rfl
theorem ksliceB_51_37_1_true : sliceB Try.prog 51 37 1 = true := by kernel_rfl
theorem ksizeB_37_1_true : sizeB Try.prog 37 1 = true := by kernel_rfl
theorem kcallB_16_true : callB Try.prog 16 = true := by kernel_rfl
theorem kfieldB_26_0_0_true : fieldB Try.prog 26 0 0 = true := by kernel_rfl
theorem kscalB_23_true : scalB Try.prog 23 = true := by kernel_rfl
theorem kelemB_23_27_1_8_true : elemB Try.prog 23 27 1 8 = true := by kernel_rfl
theorem kinfo_27_bind_zero_some_I_0 : (Try.prog.info? 27).bind (·.zero) = some (I 0) := by kernel_rfl
theorem ksizeB_23_1_true : sizeB Try.prog 23 1 = true := by kernel_rfl
theorem kcallB_17_true : callB Try.prog 17 = true := by kernel_rfl
theorem kfieldB_26_1_1_true : fieldB Try.prog 26 1 1 = true := by kernel_rfl
theorem kelemB_24_34_1_24_true : elemB Try.prog 24 34 1 24 = true := by kernel_rfl
theorem ksizeB_24_1_true : sizeB Try.prog 24 1 = true := by kernel_rfl
theorem kaggB_26_2_true : aggB Try.prog 26 2 = true := by kernel_rfl

set_option maxRecDepth 100000 in
theorem C16 {B : World} {L : List HP} {a0 : List Int} {a1 : Int} {h0 : Value} {r0 : Bool} (e0 : Ent L (Rd 1 h0 (a0.map cI))) (hm : F16 a0 a1 = some r0) {w : World} (st : St B L w) : Calls Try.prog 16 #[h0, I a1] w (fun e w' => (e = .returned (.bool r0) ∧ St B (L) w')) := by
  refine calls_of (N := 17) (L := L) (args := [h0, I a1]) Try.func16 rfl rfl rfl ?_ st
  dsimp only [F16] at hm
  refine TC.k ?_
  refine TC.region ?_
  refine TO.s rfl rfl rfl (StepS.assign rfl) ?_
  refine TO.code ?_
  refine TC.k ?_
  refine TC.k ?_
  refine TC.region ?_
  refine TO.s rfl rfl rfl (StepS.move rfl) ?_
  refine TO.s rfl rfl rfl (StepS.lenm rfl e0 ksliceB_37_3_1_true rfl) ?_
  refine TO.s rfl rfl rfl (StepS.move rfl) ?_
  refine TO.code ?_
  obtain ⟨o3, hw4, hm⟩ := bind_some hm
  refine TC.loop hw4 (fun x1 => fun a w => Mid 17 B [(1, I a1), (7, h0), (8, I (a0.length : Int)), (9, I x1)] (L) a w) (fun _ => fun a w => Mid 17 B [] (L) a w) (fun r0 => FRet Try.prog Try.f16 (fun e w' => (e = .returned (.bool r0) ∧ St B (L) w'))) ?_ ?_ ?_ ?_
  · rintro x1 o3r hb5 a w ⟨he, hs⟩
    dsimp only [F16_L0] at hb5
    refine TC.use ?_ he hs
    refine TC.k ?_
    refine TC.region ?_
    refine TO.s rfl rfl rfl (StepS.cmp rfl rfl rfl) ?_
    refine TO.code ?_
    refine TC.k ?_
    refine TC.cond rfl (fun hc6 => ?_) (fun hc6 => ?_)
    · replace hb5 := cond_t hc6 hb5
      refine TC.skipk ?_
      refine TC.k ?_
      refine TC.block ?_
      refine TC.k ?_
      refine TC.region ?_
      obtain ⟨x7, hx8, hb5⟩ := bind_some hb5
      refine TO.s rfl rfl rfl (StepS.idx rfl rfl e0 ksliceB_37_3_1_true (idx_spec hx8).1 (idxm_lt hx8)) ?_
      refine TO.s rfl rfl rfl (StepS.ld0 rfl e0 kscalB_3_true rfl (idxm hx8) rfl) ?_
      refine TO.s rfl rfl rfl (StepS.assign rfl) ?_
      refine TO.code ?_
      refine TC.k ?_
      refine TC.region ?_
      refine TO.s rfl rfl rfl (StepS.move rfl) ?_
      refine TO.s rfl rfl rfl (StepS.move rfl) ?_
      refine TO.s rfl rfl rfl (StepS.cmp rfl rfl rfl) ?_
      refine TO.code ?_
      refine TC.cond rfl (fun hc9 => ?_) (fun hc9 => ?_)
      · replace hb5 := cond_t hc9 hb5
        refine TC.k ?_
        refine TC.region ?_
        refine TO.s rfl rfl rfl (StepS.assign rfl) ?_
        refine TO.code ?_
        cases hb5
        refine TC.ret fun a w e s => ?_
        refine FRet.mk1 (P := Try.prog) (fn := Try.f16) (t := 4) e rfl rfl ?_
        exact ⟨rfl, s.mono fun _ => Sat.dropN 0⟩
      · replace hb5 := cond_f hc9 hb5
        refine TC.skipk ?_
        refine TC.region ?_
        refine TO.s rfl rfl rfl (StepS.ari rfl rfl rfl) ?_
        refine TO.s rfl rfl rfl (StepS.move rfl) ?_
        cases hb5
        refine TO.nil fun a w e s => ?_
        exact ⟨e.sub (lk_of_allIn ⟨rfl, rfl, rfl, rfl, trivial⟩), s⟩
    · replace hb5 := cond_f hc6 hb5
      cases hb5
      refine TC.exit rfl fun a w e s => ?_
      exact ⟨e.sub (lk_of_allIn trivial), s⟩
  · exact fun a w e s => ⟨e.sub (lk_of_allIn ⟨rfl, rfl, rfl, rfl, trivial⟩), s⟩
  · rintro _ rfl a w ⟨he, hs⟩
    dsimp only [Ctl.on] at hm
    refine TC.use ?_ he hs
    refine TC.k ?_
    refine TC.region ?_
    refine TO.s rfl rfl rfl (StepS.assign rfl) ?_
    refine TO.code ?_
    cases hm
    refine TC.ret fun a w e s => ?_
    refine FRet.mk1 (P := Try.prog) (fn := Try.f16) (t := 4) e rfl rfl ?_
    exact ⟨rfl, s.mono fun _ => Sat.dropN 0⟩
  · rintro r rfl
    cases hm
    exact fun a w h => h

set_option maxHeartbeats 1000000 in
set_option maxRecDepth 100000 in
theorem C6 {B : World} {L : List HP} {a0 : Int} {a1 : List (Int × Int × Int × Int)} {zp : List (List Int)} {h1 : Value} {z0 zs : List ZH} {r0 : (List Int) × List (List (Int × Nat))} {s0 : List (List Int)} (e1 : Ent L (Rd 4 h1 (a1.map cTiiii))) (hm : F6 a0 a1 zp = some (r0, s0)) {w : World} (st : St B (PZ 3 1 cI z0 zs zp :: L) w) : Calls Try.prog 6 #[I a0, h1] w (fun e w' => ∃ v M, e = .returned v ∧ (∃ (zs : List ZH) (qv1 : Value) (qv2 : Value) (qhs3 : List Value), v = .agg #[qv1, qv2] ∧ M = (PZ 3 1 cI z0 zs s0 :: OwnS 27 1 qv1 (r0.1.map cI) :: SS 34 44 2 (cZ44 zs) qv2 qhs3 (r0.2) :: L)) ∧ St B M w') := by
  refine calls_of (N := 280) (L := (PZ 3 1 cI z0 zs zp :: L)) (args := [I a0, h1]) Try.func6 rfl rfl rfl ?_ st
  dsimp only [F6] at hm
  refine TC.k ?_
  refine TC.region ?_
  refine TO.alloc kinfo_26_bind_zero_some_agg_slice_none_0_0_slice_none_0_0 rfl rfl fun b3 => ?_
  refine TO.code ?_
  refine TC.k ?_
  refine TC.region ?_
  refine TO.s rfl rfl rfl (StepS.build (cs := [.slice none 0 0, .slice none 0 0]) rfl (by kernel_rfl)) ?_
  refine TO.alloc kinfo_26_bind_zero_some_agg_slice_none_0_0_slice_none_0_0 rfl rfl fun b4 => ?_
  refine TO.stB (us := [.slice none 0 0, .slice none 0 0]) 0 [.slice none 0 0, .slice none 0 0] rfl rfl rfl ksizeB_26_2_true rfl rfl rfl (by simp [Value.oneCell']) rfl ?_
  refine TO.code ?_
  refine TC.k ?_
  refine TC.region ?_
  refine TO.s rfl rfl rfl (StepS.move rfl) ?_
  obtain ⟨y5, hk6, hm⟩ := bind_some hm
  refine TO.mkSSg (ee := 3) (sz := 1) (f := cI) kelemB_51_37_1_24_true kinfo_37_bind_zero_some_slice_none_0_0 rfl rfl hk6 rfl fun v7 hs8 => ?_
  refine TO.s rfl rfl rfl (StepS.assign rfl) ?_
  refine TO.code ?_
  refine TC.k ?_
  refine TC.region ?_
  refine TO.s rfl rfl rfl (StepS.move rfl) ?_
  refine TO.s rfl rfl rfl (StepS.lenm rfl e1.tl.tl.tl.tl ksliceB_22_41_4_true rfl) ?_
  obtain ⟨y10, hk11, hm⟩ := bind_some hm
  refine TO.mkSSg (ee := 3) (sz := 1) (f := cI) kelemB_51_37_1_24_true kinfo_37_bind_zero_some_slice_none_0_0 rfl rfl hk11 rfl fun v12 hs13 => ?_
  refine TO.s rfl rfl rfl (StepS.assign rfl) ?_
  refine TO.code ?_
  refine TC.k ?_
  refine TC.k ?_
  refine TC.region ?_
  refine TO.s rfl rfl rfl (StepS.move rfl) ?_
  refine TO.s rfl rfl rfl (StepS.lenm rfl e1.tl.tl.tl.tl.tl ksliceB_22_41_4_true rfl) ?_
  refine TO.s rfl rfl rfl (StepS.move rfl) ?_
  refine TO.code ?_
  obtain ⟨o38, hw39, hm⟩ := bind_some hm
  refine TC.loop hw39 (fun (y17, y18, y20, x22) => fun a w => ∃ v15 : Value, ∃ hs19 : List Value, ∃ hs21 : List Value, Mid 280 B [(0, I a0), (1, h1), (4, .pointer (some ⟨b3, 0, none⟩)), (5, .pointer (some ⟨b4, 0, none⟩)), (6, v7), (7, v12), (31, h1), (32, I (a1.length : Int)), (33, I x22)] (OwnS 27 1 v15 (y17.map cI) :: SS 37 3 1 cI v12 hs19 (y18) :: SS 37 3 1 cI v7 hs21 (y20) :: Bx b4 26 [v15, .slice none 0 0] :: Bx b3 26 [.slice none 0 0, .slice none 0 0] :: PZ 3 1 cI z0 zs zp :: L) a w) (fun (y33, y34, y36) => fun a w => ∃ v31 : Value, ∃ hs35 : List Value, ∃ hs37 : List Value, Mid 280 B [(0, I a0), (1, h1), (4, .pointer (some ⟨b3, 0, none⟩)), (5, .pointer (some ⟨b4, 0, none⟩)), (6, v7), (7, v12)] (OwnS 27 1 v31 (y33.map cI) :: SS 37 3 1 cI v12 hs35 (y34) :: SS 37 3 1 cI v7 hs37 (y36) :: Bx b4 26 [v31, .slice none 0 0] :: Bx b3 26 [.slice none 0 0, .slice none 0 0] :: PZ 3 1 cI z0 zs zp :: L) a w) (fun (_ : Unit) _ _ => False) ?_ ?_ ?_ ?_
  · rintro ⟨y17, y18, y20, x22⟩ o38r hb40 a w ⟨v15, hs19, hs21, he, hs⟩
    dsimp only [F6_L0] at hb40
    refine TC.use ?_ he hs
    refine TC.k ?_
    refine TC.region ?_
    refine TO.s rfl rfl rfl (StepS.cmp rfl rfl rfl) ?_
    refine TO.code ?_
    refine TC.k ?_
    refine TC.cond rfl (fun hc41 => ?_) (fun hc41 => ?_)
    · replace hb40 := cond_t hc41 hb40
      refine TC.skipk ?_
      refine TC.k ?_
      refine TC.block ?_
      refine TC.k ?_
      refine TC.region ?_
      refine TO.s rfl rfl rfl (StepS.move rfl) ?_
      obtain ⟨x42, hx43, hb40⟩ := bind_some hb40
      refine TO.s rfl rfl rfl (StepS.idx rfl rfl e1.tl.tl.tl.tl.tl.tl ksliceB_22_41_4_true (idx_spec hx43).1 (idxm_lt hx43)) ?_
      refine TO.s rfl rfl rfl (StepS.ldE rfl e1.tl.tl.tl.tl.tl.tl kaggB_41_4_true rfl (idxm hx43)) ?_
      refine TO.alloc kinfo_41_bind_zero_some_agg_I_0_I_0_I_0_I_0 rfl rfl fun b44 => ?_
      refine TO.s rfl rfl rfl (StepS.assign rfl) ?_
      refine TO.stB (us := [I x42.1, I x42.2.1, I x42.2.2.1, I x42.2.2.2]) 0 [I x42.1, I x42.2.1, I x42.2.2.1, I x42.2.2.2] rfl rfl rfl ksizeB_41_4_true rfl rfl rfl (by simp [Value.oneCell']) rfl ?_
      refine TO.code ?_
      refine TC.k ?_
      refine TC.region ?_
      refine TO.s rfl rfl rfl (StepS.assign rfl) ?_
      refine TO.code ?_
      refine TC.k ?_
      refine TC.k ?_
      refine TC.region ?_
      refine TO.s rfl rfl rfl (StepS.fld rfl kfieldB_41_0_0_true) ?_
      refine TO.s rfl rfl rfl (StepS.ldB rfl (Ent.at 0 rfl) kscalB_3_true rfl) ?_
      refine TO.s rfl rfl rfl (StepS.cmp rfl rfl rfl) ?_
      refine TO.s rfl rfl rfl (StepS.move rfl) ?_
      refine TO.mid1 4 45 (.bool ((x42.1 != 1) && (x42.1 != 2))) ?_ ?_
      · refine bcase ((x42.1 != 1)) (fun hb45 => ?_) (fun hb45 => ?_)
        · refine TO.sw rfl rfl rfl hb45 rfl rfl (StepS.fld rfl kfieldB_41_0_0_true) ?_
          refine TO.sw rfl rfl rfl hb45 rfl rfl (StepS.ldB rfl (Ent.at 0 rfl) kscalB_3_true rfl) ?_
          refine TO.sw rfl rfl rfl hb45 rfl rfl (StepS.cmp rfl rfl rfl) ?_
          refine TO.s rfl rfl rfl (StepS.pickT rfl hb45 rfl) ?_
          exact TO.up1 4 0 rfl rfl (by rw [hb45]; rfl) rfl
        · refine TO.skip rfl rfl rfl (skipF hb45) rfl rfl ?_
          refine TO.skip rfl rfl rfl (skipF hb45) rfl rfl ?_
          refine TO.skip rfl rfl rfl (skipF hb45) rfl rfl ?_
          refine TO.s rfl rfl rfl (StepS.pickF rfl hb45 rfl) ?_
          exact TO.up1 4 0 rfl rfl (by rw [hb45]; rfl) rfl
      refine TO.code ?_
      obtain ⟨⟨y46, y48, x50⟩, hj51, hb40⟩ := bind_some hb40
      first | refine TC.cutM (fun a w => ∃ hs47 : List Value, ∃ hs49 : List Value, Mid 280 B [(0, I a0), (1, h1), (4, .pointer (some ⟨b3, 0, none⟩)), (5, .pointer (some ⟨b4, 0, none⟩)), (6, v7), (7, v12), (10, I x50), (31, h1), (32, I (a1.length : Int)), (33, I x22)] (Bx b44 41 [I x42.1, I x42.2.1, I x42.2.2.1, I x42.2.2.2] :: OwnS 27 1 v15 (y17.map cI) :: SS 37 3 1 cI v12 hs47 (y46) :: SS 37 3 1 cI v7 hs49 (y48) :: Bx b4 26 [v15, .slice none 0 0] :: Bx b3 26 [.slice none 0 0, .slice none 0 0] :: PZ 3 1 cI z0 zs zp :: L) a w) ?_ ?_ | refine TC.cutX (fun a w => ∃ hs47 : List Value, ∃ hs49 : List Value, Mid 280 B [(0, I a0), (1, h1), (4, .pointer (some ⟨b3, 0, none⟩)), (5, .pointer (some ⟨b4, 0, none⟩)), (6, v7), (7, v12), (10, I x50), (31, h1), (32, I (a1.length : Int)), (33, I x22)] (Bx b44 41 [I x42.1, I x42.2.1, I x42.2.2.1, I x42.2.2.2] :: OwnS 27 1 v15 (y17.map cI) :: SS 37 3 1 cI v12 hs47 (y46) :: SS 37 3 1 cI v7 hs49 (y48) :: Bx b4 26 [v15, .slice none 0 0] :: Bx b3 26 [.slice none 0 0, .slice none 0 0] :: PZ 3 1 cI z0 zs zp :: L) a w) ?_ ?_
      · refine TC.cond rfl (fun hc52 => ?_) (fun hc52 => ?_)
        · replace hj51 := cond_t hc52 hj51
          refine TC.region ?_
          refine TO.s rfl rfl rfl (StepS.assign rfl) ?_
          cases hj51
          refine TO.nil fun a w e s => ?_
          exact ⟨hs19, hs21, e.sub (lk_of_allIn ⟨rfl, rfl, rfl, rfl, rfl, rfl, rfl, rfl, rfl, rfl, trivial⟩), s⟩
        · replace hj51 := cond_f hc52 hj51
          refine TC.k ?_
          refine TC.region ?_
          refine TO.s rfl rfl rfl (StepS.fld rfl kfieldB_41_1_1_true) ?_
          refine TO.s rfl rfl rfl (StepS.ldB rfl (Ent.at 0 rfl) kscalB_3_true rfl) ?_
          refine TO.s rfl rfl rfl (StepS.cmp rfl rfl rfl) ?_
          refine TO.s rfl rfl rfl (StepS.move rfl) ?_
          refine TO.mid1 5 54 (.bool ((decide (x42.2.1 < 0)) || (decide (x42.2.1 ≥ a0)))) ?_ ?_
          · refine bcase ((decide (x42.2.1 < 0))) (fun hb53 => ?_) (fun hb53 => ?_)
            · refine TO.skip rfl rfl rfl (skipT hb53) rfl rfl ?_
              refine TO.skip rfl rfl rfl (skipT hb53) rfl rfl ?_
              refine TO.skip rfl rfl rfl (skipT hb53) rfl rfl ?_
              refine TO.skip rfl rfl rfl (skipT hb53) rfl rfl ?_
              refine TO.s rfl rfl rfl (StepS.pickT rfl hb53 rfl) ?_
              exact TO.up1 5 0 rfl rfl (by rw [hb53]; rfl) rfl
            · refine TO.sw rfl rfl rfl hb53 rfl rfl (StepS.fld rfl kfieldB_41_1_1_true) ?_
              refine TO.sw rfl rfl rfl hb53 rfl rfl (StepS.ldB rfl (Ent.at 0 rfl) kscalB_3_true rfl) ?_
              refine TO.sw rfl rfl rfl hb53 rfl rfl (StepS.move rfl) ?_
              refine TO.sw rfl rfl rfl hb53 rfl rfl (StepS.cmp rfl rfl rfl) ?_
              refine TO.s rfl rfl rfl (StepS.pickF rfl hb53 rfl) ?_
              exact TO.up1 5 0 rfl rfl (by rw [hb53]; rfl) rfl
          refine TO.s rfl rfl rfl (StepS.move rfl) ?_
          refine TO.mid1 15 70 (.bool (((decide (x42.2.1 < 0)) || (decide (x42.2.1 ≥ a0))) || ((x42.1 == 2) && ((decide (x42.2.2.1 < 0)) || (decide (x42.2.2.1 ≥ a0)))))) ?_ ?_
          · refine bcase (((decide (x42.2.1 < 0)) || (decide (x42.2.1 ≥ a0)))) (fun hb54 => ?_) (fun hb54 => ?_)
            · refine TO.skip rfl rfl rfl (skipT hb54) rfl rfl ?_
              refine TO.skip rfl rfl rfl (skipT hb54) rfl rfl ?_
              refine TO.skip rfl rfl rfl (skipT hb54) rfl rfl ?_
              refine TO.skip rfl rfl rfl (skipT hb54) rfl rfl ?_
              refine TO.skip rfl rfl rfl skipU rfl rfl ?_
              refine TO.skip rfl rfl rfl skipU rfl rfl ?_
              refine TO.skip rfl rfl rfl skipU rfl rfl ?_
              refine TO.skip rfl rfl rfl skipU rfl rfl ?_
              refine TO.skip rfl rfl rfl skipU rfl rfl ?_
              refine TO.skip rfl rfl rfl skipU rfl rfl ?_
              refine TO.skip rfl rfl rfl skipU rfl rfl ?_
              refine TO.skip rfl rfl rfl skipU rfl rfl ?_
              refine TO.skip rfl rfl rfl skipU rfl rfl ?_
              refine TO.skip rfl rfl rfl (skipT hb54) rfl rfl ?_
              refine TO.s rfl rfl rfl (StepS.pickT rfl hb54 rfl) ?_
              exact TO.up1 15 0 rfl rfl (by rw [hb54]; rfl) rfl
            · refine TO.sw rfl rfl rfl hb54 rfl rfl (StepS.fld rfl kfieldB_41_0_0_true) ?_
              refine TO.sw rfl rfl rfl hb54 rfl rfl (StepS.ldB rfl (Ent.at 0 rfl) kscalB_3_true rfl) ?_
              refine TO.sw rfl rfl rfl hb54 rfl rfl (StepS.cmp rfl rfl rfl) ?_
              refine TO.sw rfl rfl rfl hb54 rfl rfl (StepS.move rfl) ?_
              refine TO.mid1 10 69 (.bool ((x42.1 == 2) && ((decide (x42.2.2.1 < 0)) || (decide (x42.2.2.1 ≥ a0))))) ?_ ?_
              · refine bcase ((x42.1 == 2)) (fun hb55 => ?_) (fun hb55 => ?_)
                · refine TO.sw rfl rfl rfl hb55 rfl rfl (StepS.fld rfl kfieldB_41_2_2_true) ?_
                  refine TO.sw rfl rfl rfl hb55 rfl rfl (StepS.ldB rfl (Ent.at 0 rfl) kscalB_3_true rfl) ?_
                  refine TO.sw rfl rfl rfl hb55 rfl rfl (StepS.cmp rfl rfl rfl) ?_
                  refine TO.sw rfl rfl rfl hb55 rfl rfl (StepS.move rfl) ?_
                  refine TO.mid1 5 68 (.bool ((decide (x42.2.2.1 < 0)) || (decide (x42.2.2.1 ≥ a0)))) ?_ ?_
                  · refine bcase ((decide (x42.2.2.1 < 0))) (fun hb56 => ?_) (fun hb56 => ?_)
                    · refine TO.skip rfl rfl rfl (skipT hb56) rfl rfl ?_
                      refine TO.skip rfl rfl rfl (skipT hb56) rfl rfl ?_
                      refine TO.skip rfl rfl rfl (skipT hb56) rfl rfl ?_
                      refine TO.skip rfl rfl rfl (skipT hb56) rfl rfl ?_
                      refine TO.sw rfl rfl rfl hb55 rfl rfl (StepS.pickT rfl hb56 rfl) ?_
                      exact TO.up1 5 0 rfl rfl (by rw [hb56]; rfl) rfl
                    · refine TO.sw rfl rfl rfl hb56 rfl rfl (StepS.fld rfl kfieldB_41_2_2_true) ?_
                      refine TO.sw rfl rfl rfl hb56 rfl rfl (StepS.ldB rfl (Ent.at 0 rfl) kscalB_3_true rfl) ?_
                      refine TO.sw rfl rfl rfl hb56 rfl rfl (StepS.move rfl) ?_
                      refine TO.sw rfl rfl rfl hb56 rfl rfl (StepS.cmp rfl rfl rfl) ?_
                      refine TO.sw rfl rfl rfl hb55 rfl rfl (StepS.pickF rfl hb56 rfl) ?_
                      exact TO.up1 5 0 rfl rfl (by rw [hb56]; rfl) rfl
                  refine TO.sw rfl rfl rfl hb54 rfl rfl (StepS.pickT rfl hb55 rfl) ?_
                  exact TO.up1 6 0 rfl rfl (by rw [hb55]; rfl) rfl
                · refine TO.skip rfl rfl rfl (skipF hb55) rfl rfl ?_
                  refine TO.skip rfl rfl rfl (skipF hb55) rfl rfl ?_
                  refine TO.skip rfl rfl rfl (skipF hb55) rfl rfl ?_
                  refine TO.skip rfl rfl rfl (skipF hb55) rfl rfl ?_
                  refine TO.skip rfl rfl rfl skipU rfl rfl ?_
                  refine TO.skip rfl rfl rfl skipU rfl rfl ?_
                  refine TO.skip rfl rfl rfl skipU rfl rfl ?_
                  refine TO.skip rfl rfl rfl skipU rfl rfl ?_
                  refine TO.skip rfl rfl rfl (skipF hb55) rfl rfl ?_
                  refine TO.sw rfl rfl rfl hb54 rfl rfl (StepS.pickF rfl hb55 rfl) ?_
                  exact TO.up1 10 0 rfl rfl (by rw [hb55]; rfl) rfl
              refine TO.s rfl rfl rfl (StepS.pickF rfl hb54 rfl) ?_
              exact TO.up1 6 0 rfl rfl (by rw [hb54]; rfl) rfl
          refine TO.code ?_
          refine TC.cond rfl (fun hc57 => ?_) (fun hc57 => ?_)
          · replace hj51 := cond_t hc57 hj51
            refine TC.region ?_
            refine TO.s rfl rfl rfl (StepS.assign rfl) ?_
            cases hj51
            refine TO.nil fun a w e s => ?_
            exact ⟨hs19, hs21, e.sub (lk_of_allIn ⟨rfl, rfl, rfl, rfl, rfl, rfl, rfl, rfl, rfl, rfl, trivial⟩), s⟩
          · replace hj51 := cond_f hc57 hj51
            refine TC.k ?_
            refine TC.region ?_
            refine TO.s rfl rfl rfl (StepS.fld rfl kfieldB_41_0_0_true) ?_
            refine TO.s rfl rfl rfl (StepS.ldB rfl (Ent.at 0 rfl) kscalB_3_true rfl) ?_
            refine TO.s rfl rfl rfl (StepS.cmp rfl rfl rfl) ?_
            refine TO.s rfl rfl rfl (StepS.move rfl) ?_
            refine TO.mid1 9 83 (.bool ((x42.1 == 1) && ((decide (x42.2.2.2 < 0)) || (decide (x42.2.2.2 > 100))))) ?_ ?_
            · refine bcase ((x42.1 == 1)) (fun hb58 => ?_) (fun hb58 => ?_)
              · refine TO.sw rfl rfl rfl hb58 rfl rfl (StepS.fld rfl kfieldB_41_3_3_true) ?_
                refine TO.sw rfl rfl rfl hb58 rfl rfl (StepS.ldB rfl (Ent.at 0 rfl) kscalB_3_true rfl) ?_
                refine TO.sw rfl rfl rfl hb58 rfl rfl (StepS.cmp rfl rfl rfl) ?_
                refine TO.sw rfl rfl rfl hb58 rfl rfl (StepS.move rfl) ?_
                refine TO.mid1 4 82 (.bool ((decide (x42.2.2.2 < 0)) || (decide (x42.2.2.2 > 100)))) ?_ ?_
                · refine bcase ((decide (x42.2.2.2 < 0))) (fun hb59 => ?_) (fun hb59 => ?_)
                  · refine TO.skip rfl rfl rfl (skipT hb59) rfl rfl ?_
                    refine TO.skip rfl rfl rfl (skipT hb59) rfl rfl ?_
                    refine TO.skip rfl rfl rfl (skipT hb59) rfl rfl ?_
                    refine TO.sw rfl rfl rfl hb58 rfl rfl (StepS.pickT rfl hb59 rfl) ?_
                    exact TO.up1 4 0 rfl rfl (by rw [hb59]; rfl) rfl
                  · refine TO.sw rfl rfl rfl hb59 rfl rfl (StepS.fld rfl kfieldB_41_3_3_true) ?_
                    refine TO.sw rfl rfl rfl hb59 rfl rfl (StepS.ldB rfl (Ent.at 0 rfl) kscalB_3_true rfl) ?_
                    refine TO.sw rfl rfl rfl hb59 rfl rfl (StepS.cmp rfl rfl rfl) ?_
                    refine TO.sw rfl rfl rfl hb58 rfl rfl (StepS.pickF rfl hb59 rfl) ?_
                    exact TO.up1 4 0 rfl rfl (by rw [hb59]; rfl) rfl
                refine TO.s rfl rfl rfl (StepS.pickT rfl hb58 rfl) ?_
                exact TO.up1 6 0 rfl rfl (by rw [hb58]; rfl) rfl
              · refine TO.skip rfl rfl rfl (skipF hb58) rfl rfl ?_
                refine TO.skip rfl rfl rfl (skipF hb58) rfl rfl ?_
                refine TO.skip rfl rfl rfl (skipF hb58) rfl rfl ?_
                refine TO.skip rfl rfl rfl (skipF hb58) rfl rfl ?_
                refine TO.skip rfl rfl rfl skipU rfl rfl ?_
                refine TO.skip rfl rfl rfl skipU rfl rfl ?_
                refine TO.skip rfl rfl rfl skipU rfl rfl ?_
                refine TO.skip rfl rfl rfl (skipF hb58) rfl rfl ?_
                refine TO.s rfl rfl rfl (StepS.pickF rfl hb58 rfl) ?_
                exact TO.up1 9 0 rfl rfl (by rw [hb58]; rfl) rfl
            refine TO.code ?_
            refine TC.cond rfl (fun hc60 => ?_) (fun hc60 => ?_)
            · replace hj51 := cond_t hc60 hj51
              refine TC.region ?_
              refine TO.s rfl rfl rfl (StepS.assign rfl) ?_
              cases hj51
              refine TO.nil fun a w e s => ?_
              exact ⟨hs19, hs21, e.sub (lk_of_allIn ⟨rfl, rfl, rfl, rfl, rfl, rfl, rfl, rfl, rfl, rfl, trivial⟩), s⟩
            · replace hj51 := cond_f hc60 hj51
              refine TC.k ?_
              refine TC.region ?_
              refine TO.s rfl rfl rfl (StepS.fld rfl kfieldB_41_0_0_true) ?_
              refine TO.s rfl rfl rfl (StepS.ldB rfl (Ent.at 0 rfl) kscalB_3_true rfl) ?_
              refine TO.s rfl rfl rfl (StepS.cmp rfl rfl rfl) ?_
              refine TO.code ?_
              refine TC.cond rfl (fun hc61 => ?_) (fun hc61 => ?_)
              · replace hj51 := cond_t hc61 hj51
                refine TC.k ?_
                refine TC.region ?_
                refine TO.s rfl rfl rfl (StepS.move rfl) ?_
                refine TO.s rfl rfl rfl (StepS.move rfl) ?_
                refine TO.lit0 (f := cI) ksliceB_37_3_1_true rfl fun v62 => ?_
                refine TO.s rfl rfl rfl (StepS.move rfl) ?_
                refine TO.s rfl rfl rfl (StepS.fld rfl kfieldB_41_1_1_true) ?_
                refine TO.s rfl rfl rfl (StepS.ldB rfl (Ent.at 1 rfl) kscalB_3_true rfl) ?_
                obtain ⟨x64, hx65, hj51⟩ := bind_some hj51
                refine TO.s rfl rfl rfl (StepS.idxRR rfl rfl (SS.rr (Ent.at 4 rfl)) ksliceB_51_37_1_true hx65) ?_
                refine TO.s rfl rfl rfl (StepS.ldRR rfl (SS.rr (Ent.at 4 rfl)) kscalB_37_true hx65) ?_
                obtain ⟨y67, hk68, hj51⟩ := bind_some hj51
                refine TO.app (k := 0) (f := cI) kelemB_37_3_1_8_true (by decide) rfl rfl rfl (RR.row (SS.rr (Ent.at 4 rfl)) hx65) hk68 (fun x c hc => by simp [Value.oneCell'] at hc ⊢; first | (obtain rfl := hc; rfl) | (rcases hc with rfl <;> rfl)) rfl rfl fun v69 => ?_
                refine TO.s rfl rfl rfl (StepS.move rfl) ?_
                refine TO.litS (f := cI) ([x22] : List Int) kelemB_37_3_1_8_true kinfo_3_bind_zero_some_I_0 rfl rfl (fun _ => rfl) rfl rfl (by kernel_rfl) rfl fun v70 => ?_
                obtain ⟨y72, hk73, hj51⟩ := bind_some hj51
                refine TO.app (k := 1) (f := cI) kelemB_37_3_1_8_true (by decide) rfl rfl rfl (OwnS.rd (Ent.at 0 rfl)) hk73 (fun x c hc => by simp [Value.oneCell'] at hc ⊢; first | (obtain rfl := hc; rfl) | (rcases hc with rfl <;> rfl)) rfl rfl fun v74 => ?_
                obtain ⟨x75, hx76, hj51⟩ := bind_some hj51
                refine TO.s rfl rfl rfl (StepS.idxRR rfl rfl (SS.rr (Ent.at 4 rfl)) ksliceB_51_37_1_true hx76) ?_
                refine TO.ghost (fun _ s => Sat.front 1 rfl s) ?_
                refine TO.ghost (fun _ s => Sat.front 4 rfl s) ?_
                refine TO.stRow (xs := y72) rfl rfl hx76 ksizeB_37_1_true ?_
                refine TO.code ?_
                obtain ⟨y78, hj80, hj51⟩ := bind_some hj51
                first | refine TC.cutM (fun a w => ∃ hs79 : List Value, Mid 280 B [(0, I a0), (1, h1), (4, .pointer (some ⟨b3, 0, none⟩)), (5, .pointer (some ⟨b4, 0, none⟩)), (6, v7), (7, v12), (10, I 0), (31, h1), (32, I (a1.length : Int)), (33, I x22)] (SS 37 3 1 cI v12 (hs19.set x22.toNat v74) (y18.set x22.toNat y72) :: OwnS 3 1 v70 (([x22] : List Int).map cI) :: Bx b44 41 [I x42.1, I x42.2.1, I x42.2.2.1, I x42.2.2.2] :: OwnS 27 1 v15 (y17.map cI) :: SS 37 3 1 cI v7 hs79 (y78) :: Bx b4 26 [v15, .slice none 0 0] :: Bx b3 26 [.slice none 0 0, .slice none 0 0] :: PZ 3 1 cI z0 zs zp :: L) a w) ?_ ?_ | refine TC.cutX (fun a w => ∃ hs79 : List Value, Mid 280 B [(0, I a0), (1, h1), (4, .pointer (some ⟨b3, 0, none⟩)), (5, .pointer (some ⟨b4, 0, none⟩)), (6, v7), (7, v12), (10, I 0), (31, h1), (32, I (a1.length : Int)), (33, I x22)] (SS 37 3 1 cI v12 (hs19.set x22.toNat v74) (y18.set x22.toNat y72) :: OwnS 3 1 v70 (([x22] : List Int).map cI) :: Bx b44 41 [I x42.1, I x42.2.1, I x42.2.2.1, I x42.2.2.2] :: OwnS 27 1 v15 (y17.map cI) :: SS 37 3 1 cI v7 hs79 (y78) :: Bx b4 26 [v15, .slice none 0 0] :: Bx b3 26 [.slice none 0 0, .slice none 0 0] :: PZ 3 1 cI z0 zs zp :: L) a w) ?_ ?_
                · obtain ⟨xq77_7_1, hxq77_7_2, hj80⟩ := bind_some hj80
                  obtain ⟨yq77_9_1, hkq77_9_2, hj80⟩ := bind_some hj80
                  obtain ⟨yq77_12_1, hkq77_12_2, hj80⟩ := bind_some hj80
                  obtain ⟨xq77_13_1, hxq77_13_2, hj80⟩ := bind_some hj80
                  refine TC.region_any (SS 37 3 1 cI v12 (hs19.set x22.toNat v74) (y18.set x22.toNat y72) :: OwnS 3 1 v70 (([x22] : List Int).map cI) :: Bx b44 41 [I x42.1, I x42.2.1, I x42.2.2.1, I x42.2.2.2] :: OwnS 27 1 v15 (y17.map cI) :: SS 37 3 1 cI v7 hs21 (y20) :: Bx b4 26 [v15, .slice none 0 0] :: Bx b3 26 [.slice none 0 0, .slice none 0 0] :: PZ 3 1 cI z0 zs zp :: L) 14 15 kfollows_mixedOrders_true rfl ?_
                  refine TA.takeW 0 rfl rfl rfl rfl (StepS.move rfl) (by kernel_rfl) (by kernel_rfl) (by kernel_rfl) rfl (.inr (fun _ s => s)) ?_
                  refine TA.takeW 1 rfl rfl rfl rfl (StepS.fld rfl kfieldB_41_1_1_true) (by kernel_rfl) (by kernel_rfl) (by kernel_rfl) rfl (.inr (fun _ s => s)) ?_
                  refine TA.take 2 rfl rfl rfl rfl (StepS.ldB rfl (Ent.at 2 rfl) kscalB_3_true rfl) (by kernel_rfl) (by kernel_rfl) (by kernel_rfl) (by kernel_rfl) (by kernel_rfl) (fun _ s => s) ?_
                  refine TA.takeW 4 rfl rfl rfl rfl (StepS.move rfl) (by kernel_rfl) (by kernel_rfl) (by kernel_rfl) rfl (.inr (fun _ s => s)) ?_
                  refine TA.takeW 5 rfl rfl rfl rfl (StepS.fld rfl kfieldB_41_1_1_true) (by kernel_rfl) (by kernel_rfl) (by kernel_rfl) rfl (.inr (fun _ s => s)) ?_
                  refine TA.take 6 rfl rfl rfl rfl (StepS.ldB rfl (Ent.at 2 rfl) kscalB_3_true rfl) (by kernel_rfl) (by kernel_rfl) (by kernel_rfl) (by kernel_rfl) (by kernel_rfl) (fun _ s => s) ?_
                  refine TA.take 7 rfl rfl rfl rfl (StepS.idxRR rfl rfl (SS.rr (Ent.at 4 rfl)) ksliceB_51_37_1_true hxq77_7_2) (by kernel_rfl) (by kernel_rfl) (by kernel_rfl) (by kernel_rfl) (by kernel_rfl) (fun _ s => s) ?_
                  refine TA.take 8 rfl rfl rfl rfl (StepS.ldRR rfl (SS.rr (Ent.at 4 rfl)) kscalB_37_true hxq77_7_2) (by kernel_rfl) (by kernel_rfl) (by kernel_rfl) (by kernel_rfl) (by kernel_rfl) (fun _ s => s) ?_
                  refine TA.takeW 10 rfl rfl rfl rfl (StepS.move rfl) (by kernel_rfl) (by kernel_rfl) (by kernel_rfl) rfl (.inr (fun _ s => s)) ?_
                  refine TA.all2 (i := 3) (j := 11) (by kernel_rfl) ?_ ?_
                  · refine TB.of rfl ?_
                    refine TO.lit0 (f := cI) ksliceB_37_3_1_true rfl fun vq77_3_1 => ?_
                    refine TA.back (.inr (fun _ s => Sat.by [8, 8, 8, 8, 8, 8, 8, 8] 8 1 (by kernel_rfl) s)) ?_
                    refine TA.asL (L' := (OwnS 3 1 vq77_3_1 (([] : List Int).map cI) :: SS 37 3 1 cI v12 (hs19.set x22.toNat v74) (y18.set x22.toNat y72) :: OwnS 3 1 v70 (([x22] : List Int).map cI) :: Bx b44 41 [I x42.1, I x42.2.1, I x42.2.2.1, I x42.2.2.2] :: OwnS 27 1 v15 (y17.map cI) :: SS 37 3 1 cI v7 hs21 (y20) :: Bx b4 26 [v15, .slice none 0 0] :: Bx b3 26 [.slice none 0 0, .slice none 0 0] :: PZ 3 1 cI z0 zs zp :: L)) (listed' := #[true, true, true, true, true, true, true, true, true, false, true, false, false, false, false]) (by kernel_rfl) (by kernel_rfl) ?_
                    refine TA.all2 (i := 9) (j := 11) (by kernel_rfl) ?_ ?_
                    · refine TB.of rfl ?_
                      refine TO.app (k := 0) (f := cI) kelemB_37_3_1_8_true (by decide) rfl rfl rfl (RR.row (SS.rr (Ent.at 5 rfl)) hxq77_7_2) hkq77_9_2 (fun x c hc => by simp [Value.oneCell'] at hc ⊢; first | (obtain rfl := hc; rfl) | (rcases hc with rfl <;> rfl)) rfl rfl fun vq77_9_3 => ?_
                      refine TA.back (.inr (fun _ s => Sat.by [8, 8, 8, 8, 8, 8, 8, 8] 8 1 (by kernel_rfl) s)) ?_
                      refine TA.asL (L' := (OwnS 3 1 vq77_9_3 (yq77_9_1.map cI) :: SS 37 3 1 cI v12 (hs19.set x22.toNat v74) (y18.set x22.toNat y72) :: OwnS 3 1 v70 (([x22] : List Int).map cI) :: Bx b44 41 [I x42.1, I x42.2.1, I x42.2.2.1, I x42.2.2.2] :: OwnS 27 1 v15 (y17.map cI) :: SS 37 3 1 cI v7 hs21 (y20) :: Bx b4 26 [v15, .slice none 0 0] :: Bx b3 26 [.slice none 0 0, .slice none 0 0] :: PZ 3 1 cI z0 zs zp :: L)) (listed' := #[true, true, true, true, true, true, true, true, true, true, true, false, false, false, false]) (by kernel_rfl) (by kernel_rfl) ?_
                      refine TA.all1 (i := 11) (by kernel_rfl) ?_
                      refine TB.of rfl ?_
                      refine TO.litS (f := cI) ([x22] : List Int) kelemB_37_3_1_8_true kinfo_3_bind_zero_some_I_0 rfl rfl (fun _ => rfl) rfl rfl (by kernel_rfl) rfl fun vq77_11_1 => ?_
                      refine TA.back (.inr (fun _ s => Sat.by [9, 9, 9, 9, 9, 9, 9, 9] 8 2 (by kernel_rfl) s)) ?_
                      refine TA.asL (L' := (OwnS 3 1 vq77_11_1 (([x22] : List Int).map cI) :: OwnS 3 1 vq77_9_3 (yq77_9_1.map cI) :: SS 37 3 1 cI v12 (hs19.set x22.toNat v74) (y18.set x22.toNat y72) :: OwnS 3 1 v70 (([x22] : List Int).map cI) :: Bx b44 41 [I x42.1, I x42.2.1, I x42.2.2.1, I x42.2.2.2] :: OwnS 27 1 v15 (y17.map cI) :: SS 37 3 1 cI v7 hs21 (y20) :: Bx b4 26 [v15, .slice none 0 0] :: Bx b3 26 [.slice none 0 0, .slice none 0 0] :: PZ 3 1 cI z0 zs zp :: L)) (listed' := #[true, true, true, true, true, true, true, true, true, true, true, true, false, false, false]) (by kernel_rfl) (by kernel_rfl) ?_
                      refine TA.all1 (i := 12) (by kernel_rfl) ?_
                      refine TB.of rfl ?_
                      refine TO.app (k := 1) (f := cI) kelemB_37_3_1_8_true (by decide) rfl rfl rfl (OwnS.rd (Ent.at 0 rfl)) hkq77_12_2 (fun x c hc => by simp [Value.oneCell'] at hc ⊢; first | (obtain rfl := hc; rfl) | (rcases hc with rfl <;> rfl)) rfl rfl fun vq77_12_3 => ?_
                      refine TA.back (.inr (fun _ s => Sat.by [9, 9, 9, 9, 9, 9, 9, 9] 8 2 (by kernel_rfl) s)) ?_
                      refine TA.asL (L' := (OwnS 3 1 vq77_11_1 (([x22] : List Int).map cI) :: OwnS 3 1 vq77_12_3 (yq77_12_1.map cI) :: SS 37 3 1 cI v12 (hs19.set x22.toNat v74) (y18.set x22.toNat y72) :: OwnS 3 1 v70 (([x22] : List Int).map cI) :: Bx b44 41 [I x42.1, I x42.2.1, I x42.2.2.1, I x42.2.2.2] :: OwnS 27 1 v15 (y17.map cI) :: SS 37 3 1 cI v7 hs21 (y20) :: Bx b4 26 [v15, .slice none 0 0] :: Bx b3 26 [.slice none 0 0, .slice none 0 0] :: PZ 3 1 cI z0 zs zp :: L)) (listed' := #[true, true, true, true, true, true, true, true, true, true, true, true, true, false, false]) (by kernel_rfl) (by kernel_rfl) ?_
                      refine TA.take 13 rfl rfl rfl rfl (StepS.idxRR rfl rfl (SS.rr (Ent.at 4 rfl)) ksliceB_51_37_1_true hxq77_13_2) (by kernel_rfl) (by kernel_rfl) (by kernel_rfl) (by kernel_rfl) (by kernel_rfl) (fun _ s => Sat.by [9, 9, 9, 9, 9, 9, 9, 9] 8 2 (by kernel_rfl) s) ?_
                      refine TA.all1 (i := 14) (by kernel_rfl) ?_
                      refine TB.of rfl ?_
                      refine TO.ghost (fun _ s => Sat.front 1 rfl s) ?_
                      refine TO.ghost (fun _ s => Sat.front 6 rfl s) ?_
                      refine TO.stRow (xs := yq77_12_1) rfl rfl hxq77_13_2 ksizeB_37_1_true ?_
                      refine TA.back (.inl (by kernel_rfl)) ?_
                      refine TA.asL (L' := (SS 37 3 1 cI v7 (hs21.set x42.2.1.toNat vq77_12_3) (y20.set x42.2.1.toNat yq77_12_1) :: OwnS 3 1 vq77_11_1 (([x22] : List Int).map cI) :: SS 37 3 1 cI v12 (hs19.set x22.toNat v74) (y18.set x22.toNat y72) :: OwnS 3 1 v70 (([x22] : List Int).map cI) :: Bx b44 41 [I x42.1, I x42.2.1, I x42.2.2.1, I x42.2.2.2] :: OwnS 27 1 v15 (y17.map cI) :: Bx b4 26 [v15, .slice none 0 0] :: Bx b3 26 [.slice none 0 0, .slice none 0 0] :: PZ 3 1 cI z0 zs zp :: L)) (listed' := #[true, true, true, true, true, true, true, true, true, true, true, true, true, true, true]) (by kernel_rfl) (by kernel_rfl) ?_
                      cases hj80
                      refine TA.nil (by kernel_rfl) fun a w e s => ?_
                      exact ⟨(hs21.set x42.2.1.toNat vq77_12_3), e.sub (lk_of_allIn ⟨rfl, rfl, rfl, rfl, rfl, rfl, rfl, rfl, rfl, rfl, trivial⟩), s.mono fun _ s => (by exact Sat.by [8, 8, 8, 3, 8, 8, 8, 8] 8 1 (by kernel_rfl) s)⟩
                    · refine TB.of rfl ?_
                      refine TO.litS (f := cI) ([x22] : List Int) kelemB_37_3_1_8_true kinfo_3_bind_zero_some_I_0 rfl rfl (fun _ => rfl) rfl rfl (by kernel_rfl) rfl fun vq77_11_1 => ?_
                      refine TA.back (.inr (fun _ s => Sat.by [9, 9, 9, 9, 9, 9, 9, 9] 8 2 (by kernel_rfl) s)) ?_
                      refine TA.asL (L' := (OwnS 3 1 vq77_11_1 (([x22] : List Int).map cI) :: OwnS 3 1 vq77_3_1 (([] : List Int).map cI) :: SS 37 3 1 cI v12 (hs19.set x22.toNat v74) (y18.set x22.toNat y72) :: OwnS 3 1 v70 (([x22] : List Int).map cI) :: Bx b44 41 [I x42.1, I x42.2.1, I x42.2.2.1, I x42.2.2.2] :: OwnS 27 1 v15 (y17.map cI) :: SS 37 3 1 cI v7 hs21 (y20) :: Bx b4 26 [v15, .slice none 0 0] :: Bx b3 26 [.slice none 0 0, .slice none 0 0] :: PZ 3 1 cI z0 zs zp :: L)) (listed' := #[true, true, true, true, true, true, true, true, true, false, true, true, false, false, false]) (by kernel_rfl) (by kernel_rfl) ?_
                      refine TA.all1 (i := 9) (by kernel_rfl) ?_
                      refine TB.of rfl ?_
                      refine TO.app (k := 1) (f := cI) kelemB_37_3_1_8_true (by decide) rfl rfl rfl (RR.row (SS.rr (Ent.at 6 rfl)) hxq77_7_2) hkq77_9_2 (fun x c hc => by simp [Value.oneCell'] at hc ⊢; first | (obtain rfl := hc; rfl) | (rcases hc with rfl <;> rfl)) rfl rfl fun vq77_9_3 => ?_
                      refine TA.back (.inr (fun _ s => Sat.by [9, 9, 9, 9, 9, 9, 9, 9] 8 2 (by kernel_rfl) s)) ?_
                      refine TA.asL (L' := (OwnS 3 1 vq77_11_1 (([x22] : List Int).map cI) :: OwnS 3 1 vq77_9_3 (yq77_9_1.map cI) :: SS 37 3 1 cI v12 (hs19.set x22.toNat v74) (y18.set x22.toNat y72) :: OwnS 3 1 v70 (([x22] : List Int).map cI) :: Bx b44 41 [I x42.1, I x42.2.1, I x42.2.2.1, I x42.2.2.2] :: OwnS 27 1 v15 (y17.map cI) :: SS 37 3 1 cI v7 hs21 (y20) :: Bx b4 26 [v15, .slice none 0 0] :: Bx b3 26 [.slice none 0 0, .slice none 0 0] :: PZ 3 1 cI z0 zs zp :: L)) (listed' := #[true, true, true, true, true, true, true, true, true, true, true, true, false, false, false]) (by kernel_rfl) (by kernel_rfl) ?_
                      refine TA.all1 (i := 12) (by kernel_rfl) ?_
                      refine TB.of rfl ?_
                      refine TO.app (k := 1) (f := cI) kelemB_37_3_1_8_true (by decide) rfl rfl rfl (OwnS.rd (Ent.at 0 rfl)) hkq77_12_2 (fun x c hc => by simp [Value.oneCell'] at hc ⊢; first | (obtain rfl := hc; rfl) | (rcases hc with rfl <;> rfl)) rfl rfl fun vq77_12_3 => ?_
                      refine TA.back (.inr (fun _ s => Sat.by [9, 9, 9, 9, 9, 9, 9, 9] 8 2 (by kernel_rfl) s)) ?_
                      refine TA.asL (L' := (OwnS 3 1 vq77_11_1 (([x22] : List Int).map cI) :: OwnS 3 1 vq77_12_3 (yq77_12_1.map cI) :: SS 37 3 1 cI v12 (hs19.set x22.toNat v74) (y18.set x22.toNat y72) :: OwnS 3 1 v70 (([x22] : List Int).map cI) :: Bx b44 41 [I x42.1, I x42.2.1, I x42.2.2.1, I x42.2.2.2] :: OwnS 27 1 v15 (y17.map cI) :: SS 37 3 1 cI v7 hs21 (y20) :: Bx b4 26 [v15, .slice none 0 0] :: Bx b3 26 [.slice none 0 0, .slice none 0 0] :: PZ 3 1 cI z0 zs zp :: L)) (listed' := #[true, true, true, true, true, true, true, true, true, true, true, true, true, false, false]) (by kernel_rfl) (by kernel_rfl) ?_
                      refine TA.take 13 rfl rfl rfl rfl (StepS.idxRR rfl rfl (SS.rr (Ent.at 4 rfl)) ksliceB_51_37_1_true hxq77_13_2) (by kernel_rfl) (by kernel_rfl) (by kernel_rfl) (by kernel_rfl) (by kernel_rfl) (fun _ s => Sat.by [9, 9, 9, 9, 9, 9, 9, 9] 8 2 (by kernel_rfl) s) ?_
                      refine TA.all1 (i := 14) (by kernel_rfl) ?_
                      refine TB.of rfl ?_
                      refine TO.ghost (fun _ s => Sat.front 1 rfl s) ?_
                      refine TO.ghost (fun _ s => Sat.front 6 rfl s) ?_
                      refine TO.stRow (xs := yq77_12_1) rfl rfl hxq77_13_2 ksizeB_37_1_true ?_
                      refine TA.back (.inl (by kernel_rfl)) ?_
                      refine TA.asL (L' := (SS 37 3 1 cI v7 (hs21.set x42.2.1.toNat vq77_12_3) (y20.set x42.2.1.toNat yq77_12_1) :: OwnS 3 1 vq77_11_1 (([x22] : List Int).map cI) :: SS 37 3 1 cI v12 (hs19.set x22.toNat v74) (y18.set x22.toNat y72) :: OwnS 3 1 v70 (([x22] : List Int).map cI) :: Bx b44 41 [I x42.1, I x42.2.1, I x42.2.2.1, I x42.2.2.2] :: OwnS 27 1 v15 (y17.map cI) :: Bx b4 26 [v15, .slice none 0 0] :: Bx b3 26 [.slice none 0 0, .slice none 0 0] :: PZ 3 1 cI z0 zs zp :: L)) (listed' := #[true, true, true, true, true, true, true, true, true, true, true, true, true, true, true]) (by kernel_rfl) (by kernel_rfl) ?_
                      cases hj80
                      refine TA.nil (by kernel_rfl) fun a w e s => ?_
                      exact ⟨(hs21.set x42.2.1.toNat vq77_12_3), e.sub (lk_of_allIn ⟨rfl, rfl, rfl, rfl, rfl, rfl, rfl, rfl, rfl, rfl, trivial⟩), s.mono fun _ s => (by exact Sat.by [8, 8, 8, 3, 8, 8, 8, 8] 8 1 (by kernel_rfl) s)⟩
                  · refine TB.of rfl ?_
                    refine TO.litS (f := cI) ([x22] : List Int) kelemB_37_3_1_8_true kinfo_3_bind_zero_some_I_0 rfl rfl (fun _ => rfl) rfl rfl (by kernel_rfl) rfl fun vq77_11_1 => ?_
                    refine TA.back (.inr (fun _ s => Sat.by [8, 8, 8, 8, 8, 8, 8, 8] 8 1 (by kernel_rfl) s)) ?_
                    refine TA.asL (L' := (OwnS 3 1 vq77_11_1 (([x22] : List Int).map cI) :: SS 37 3 1 cI v12 (hs19.set x22.toNat v74) (y18.set x22.toNat y72) :: OwnS 3 1 v70 (([x22] : List Int).map cI) :: Bx b44 41 [I x42.1, I x42.2.1, I x42.2.2.1, I x42.2.2.2] :: OwnS 27 1 v15 (y17.map cI) :: SS 37 3 1 cI v7 hs21 (y20) :: Bx b4 26 [v15, .slice none 0 0] :: Bx b3 26 [.slice none 0 0, .slice none 0 0] :: PZ 3 1 cI z0 zs zp :: L)) (listed' := #[true, true, true, false, true, true, true, true, true, false, true, true, false, false, false]) (by kernel_rfl) (by kernel_rfl) ?_
                    refine TA.all1 (i := 3) (by kernel_rfl) ?_
                    refine TB.of rfl ?_
                    refine TO.lit0 (f := cI) ksliceB_37_3_1_true rfl fun vq77_3_1 => ?_
                    refine TA.back (.inr (fun _ s => Sat.by [9, 9, 9, 9, 9, 9, 9, 9] 8 2 (by kernel_rfl) s)) ?_
                    refine TA.asL (L' := (OwnS 3 1 vq77_3_1 (([] : List Int).map cI) :: OwnS 3 1 vq77_11_1 (([x22] : List Int).map cI) :: SS 37 3 1 cI v12 (hs19.set x22.toNat v74) (y18.set x22.toNat y72) :: OwnS 3 1 v70 (([x22] : List Int).map cI) :: Bx b44 41 [I x42.1, I x42.2.1, I x42.2.2.1, I x42.2.2.2] :: OwnS 27 1 v15 (y17.map cI) :: SS 37 3 1 cI v7 hs21 (y20) :: Bx b4 26 [v15, .slice none 0 0] :: Bx b3 26 [.slice none 0 0, .slice none 0 0] :: PZ 3 1 cI z0 zs zp :: L)) (listed' := #[true, true, true, true, true, true, true, true, true, false, true, true, false, false, false]) (by kernel_rfl) (by kernel_rfl) ?_
                    refine TA.all1 (i := 9) (by kernel_rfl) ?_
                    refine TB.of rfl ?_
                    refine TO.app (k := 0) (f := cI) kelemB_37_3_1_8_true (by decide) rfl rfl rfl (RR.row (SS.rr (Ent.at 6 rfl)) hxq77_7_2) hkq77_9_2 (fun x c hc => by simp [Value.oneCell'] at hc ⊢; first | (obtain rfl := hc; rfl) | (rcases hc with rfl <;> rfl)) rfl rfl fun vq77_9_3 => ?_
                    refine TA.back (.inr (fun _ s => Sat.by [9, 9, 9, 9, 9, 9, 9, 9] 8 2 (by kernel_rfl) s)) ?_
                    refine TA.asL (L' := (OwnS 3 1 vq77_9_3 (yq77_9_1.map cI) :: OwnS 3 1 vq77_11_1 (([x22] : List Int).map cI) :: SS 37 3 1 cI v12 (hs19.set x22.toNat v74) (y18.set x22.toNat y72) :: OwnS 3 1 v70 (([x22] : List Int).map cI) :: Bx b44 41 [I x42.1, I x42.2.1, I x42.2.2.1, I x42.2.2.2] :: OwnS 27 1 v15 (y17.map cI) :: SS 37 3 1 cI v7 hs21 (y20) :: Bx b4 26 [v15, .slice none 0 0] :: Bx b3 26 [.slice none 0 0, .slice none 0 0] :: PZ 3 1 cI z0 zs zp :: L)) (listed' := #[true, true, true, true, true, true, true, true, true, true, true, true, false, false, false]) (by kernel_rfl) (by kernel_rfl) ?_
                    refine TA.all1 (i := 12) (by kernel_rfl) ?_
                    refine TB.of rfl ?_
                    refine TO.app (k := 0) (f := cI) kelemB_37_3_1_8_true (by decide) rfl rfl rfl (OwnS.rd (Ent.at 1 rfl)) hkq77_12_2 (fun x c hc => by simp [Value.oneCell'] at hc ⊢; first | (obtain rfl := hc; rfl) | (rcases hc with rfl <;> rfl)) rfl rfl fun vq77_12_3 => ?_
                    refine TA.back (.inr (fun _ s => Sat.by [9, 9, 9, 9, 9, 9, 9, 9] 8 2 (by kernel_rfl) s)) ?_
                    refine TA.asL (L' := (OwnS 3 1 vq77_12_3 (yq77_12_1.map cI) :: OwnS 3 1 vq77_11_1 (([x22] : List Int).map cI) :: SS 37 3 1 cI v12 (hs19.set x22.toNat v74) (y18.set x22.toNat y72) :: OwnS 3 1 v70 (([x22] : List Int).map cI) :: Bx b44 41 [I x42.1, I x42.2.1, I x42.2.2.1, I x42.2.2.2] :: OwnS 27 1 v15 (y17.map cI) :: SS 37 3 1 cI v7 hs21 (y20) :: Bx b4 26 [v15, .slice none 0 0] :: Bx b3 26 [.slice none 0 0, .slice none 0 0] :: PZ 3 1 cI z0 zs zp :: L)) (listed' := #[true, true, true, true, true, true, true, true, true, true, true, true, true, false, false]) (by kernel_rfl) (by kernel_rfl) ?_
                    refine TA.take 13 rfl rfl rfl rfl (StepS.idxRR rfl rfl (SS.rr (Ent.at 4 rfl)) ksliceB_51_37_1_true hxq77_13_2) (by kernel_rfl) (by kernel_rfl) (by kernel_rfl) (by kernel_rfl) (by kernel_rfl) (fun _ s => Sat.by [9, 9, 9, 9, 9, 9, 9, 9] 8 2 (by kernel_rfl) s) ?_
                    refine TA.all1 (i := 14) (by kernel_rfl) ?_
                    refine TB.of rfl ?_
                    refine TO.ghost (fun _ s => Sat.front 6 rfl s) ?_
                    refine TO.stRow (xs := yq77_12_1) rfl rfl hxq77_13_2 ksizeB_37_1_true ?_
                    refine TA.back (.inl (by kernel_rfl)) ?_
                    refine TA.asL (L' := (SS 37 3 1 cI v7 (hs21.set x42.2.1.toNat vq77_12_3) (y20.set x42.2.1.toNat yq77_12_1) :: OwnS 3 1 vq77_11_1 (([x22] : List Int).map cI) :: SS 37 3 1 cI v12 (hs19.set x22.toNat v74) (y18.set x22.toNat y72) :: OwnS 3 1 v70 (([x22] : List Int).map cI) :: Bx b44 41 [I x42.1, I x42.2.1, I x42.2.2.1, I x42.2.2.2] :: OwnS 27 1 v15 (y17.map cI) :: Bx b4 26 [v15, .slice none 0 0] :: Bx b3 26 [.slice none 0 0, .slice none 0 0] :: PZ 3 1 cI z0 zs zp :: L)) (listed' := #[true, true, true, true, true, true, true, true, true, true, true, true, true, true, true]) (by kernel_rfl) (by kernel_rfl) ?_
                    cases hj80
                    refine TA.nil (by kernel_rfl) fun a w e s => ?_
                    exact ⟨(hs21.set x42.2.1.toNat vq77_12_3), e.sub (lk_of_allIn ⟨rfl, rfl, rfl, rfl, rfl, rfl, rfl, rfl, rfl, rfl, trivial⟩), s.mono fun _ s => (by exact Sat.by [8, 8, 8, 3, 8, 8, 8, 8] 8 1 (by kernel_rfl) s)⟩
                · intro a w ⟨hs79, he, hs⟩
                  cases hj51
                  have e := he; have s := hs
                  exact ⟨(hs19.set x22.toNat v74), hs79, e.sub (lk_of_allIn ⟨rfl, rfl, rfl, rfl, rfl, rfl, rfl, rfl, rfl, rfl, trivial⟩), s.mono fun _ s => (by exact Sat.by [7, 7, 7, 7, 4, 7, 7] 7 1 (by kernel_rfl) s)⟩
              · replace hj51 := cond_f hc61 hj51
                refine TC.k ?_
                refine TC.region ?_
                refine TO.lit0 (f := cI) ksliceB_37_3_1_true rfl fun v81 => ?_
                refine TO.s rfl rfl rfl (StepS.move rfl) ?_
                refine TO.s rfl rfl rfl (StepS.fld rfl kfieldB_41_1_1_true) ?_
                refine TO.s rfl rfl rfl (StepS.ldB rfl (Ent.at 1 rfl) kscalB_3_true rfl) ?_
                obtain ⟨x83, hx84, hj51⟩ := bind_some hj51
                refine TO.s rfl rfl rfl (StepS.idxRR rfl rfl (SS.rr (Ent.at 4 rfl)) ksliceB_51_37_1_true hx84) ?_
                refine TO.s rfl rfl rfl (StepS.ldRR rfl (SS.rr (Ent.at 4 rfl)) kscalB_37_true hx84) ?_
                obtain ⟨y86, hk87, hj51⟩ := bind_some hj51
                refine TO.app (k := 0) (f := cI) kelemB_37_3_1_8_true (by decide) rfl rfl rfl (RR.row (SS.rr (Ent.at 4 rfl)) hx84) hk87 (fun x c hc => by simp [Value.oneCell'] at hc ⊢; first | (obtain rfl := hc; rfl) | (rcases hc with rfl <;> rfl)) rfl rfl fun v88 => ?_
                refine TO.s rfl rfl rfl (StepS.lenm rfl (OwnS.rd (Ent.at 0 rfl)) ksliceB_37_3_1_true rfl) ?_
                refine TO.s rfl rfl rfl (StepS.move rfl) ?_
                refine TO.code ?_
                obtain ⟨o97, hw98, hj51⟩ := bind_some hj51
                refine TC.loop hw98 (fun (y89, x91) => fun a w => ∃ hs90 : List Value, Mid 280 B [(0, I a0), (1, h1), (4, .pointer (some ⟨b3, 0, none⟩)), (5, .pointer (some ⟨b4, 0, none⟩)), (6, v7), (7, v12), (9, .pointer (some ⟨b44, 0, none⟩)), (10, I 0), (31, h1), (32, I (a1.length : Int)), (33, I x22), (120, v88), (121, I (y86.length : Int)), (122, I x91)] (OwnS 3 1 v88 (y86.map cI) :: Bx b44 41 [I x42.1, I x42.2.1, I x42.2.2.1, I x42.2.2.2] :: OwnS 27 1 v15 (y17.map cI) :: SS 37 3 1 cI v12 hs19 (y18) :: SS 37 3 1 cI v7 hs90 (y89) :: Bx b4 26 [v15, .slice none 0 0] :: Bx b3 26 [.slice none 0 0, .slice none 0 0] :: PZ 3 1 cI z0 zs zp :: L) a w) (fun y95 => fun a w => ∃ hs96 : List Value, Mid 280 B [(0, I a0), (1, h1), (4, .pointer (some ⟨b3, 0, none⟩)), (5, .pointer (some ⟨b4, 0, none⟩)), (6, v7), (7, v12), (10, I 0), (31, h1), (32, I (a1.length : Int)), (33, I x22)] (OwnS 3 1 v88 (y86.map cI) :: Bx b44 41 [I x42.1, I x42.2.1, I x42.2.2.1, I x42.2.2.2] :: OwnS 27 1 v15 (y17.map cI) :: SS 37 3 1 cI v12 hs19 (y18) :: SS 37 3 1 cI v7 hs96 (y95) :: Bx b4 26 [v15, .slice none 0 0] :: Bx b3 26 [.slice none 0 0, .slice none 0 0] :: PZ 3 1 cI z0 zs zp :: L) a w) (fun (_ : Unit) _ _ => False) ?_ ?_ ?_ ?_
                · rintro ⟨y89, x91⟩ o97r hb99 a w ⟨hs90, he, hs⟩
                  dsimp only [F6_L1] at hb99
                  refine TC.use ?_ he hs
                  refine TC.k ?_
                  refine TC.region ?_
                  refine TO.s rfl rfl rfl (StepS.cmp rfl rfl rfl) ?_
                  refine TO.code ?_
                  refine TC.k ?_
                  refine TC.cond rfl (fun hc100 => ?_) (fun hc100 => ?_)
                  · replace hb99 := cond_t hc100 hb99
                    refine TC.skipk ?_
                    refine TC.k ?_
                    obtain ⟨y101, hj103, hb99⟩ := bind_some hb99
                    first | refine TC.cutM (fun a w => ∃ hs102 : List Value, Mid 280 B [(0, I a0), (1, h1), (4, .pointer (some ⟨b3, 0, none⟩)), (5, .pointer (some ⟨b4, 0, none⟩)), (6, v7), (7, v12), (9, .pointer (some ⟨b44, 0, none⟩)), (10, I 0), (31, h1), (32, I (a1.length : Int)), (33, I x22), (120, v88), (121, I (y86.length : Int)), (122, I x91)] (OwnS 3 1 v88 (y86.map cI) :: Bx b44 41 [I x42.1, I x42.2.1, I x42.2.2.1, I x42.2.2.2] :: OwnS 27 1 v15 (y17.map cI) :: SS 37 3 1 cI v12 hs19 (y18) :: SS 37 3 1 cI v7 hs102 (y101) :: Bx b4 26 [v15, .slice none 0 0] :: Bx b3 26 [.slice none 0 0, .slice none 0 0] :: PZ 3 1 cI z0 zs zp :: L) a w) ?_ ?_ | refine TC.cutX (fun a w => ∃ hs102 : List Value, Mid 280 B [(0, I a0), (1, h1), (4, .pointer (some ⟨b3, 0, none⟩)), (5, .pointer (some ⟨b4, 0, none⟩)), (6, v7), (7, v12), (9, .pointer (some ⟨b44, 0, none⟩)), (10, I 0), (31, h1), (32, I (a1.length : Int)), (33, I x22), (120, v88), (121, I (y86.length : Int)), (122, I x91)] (OwnS 3 1 v88 (y86.map cI) :: Bx b44 41 [I x42.1, I x42.2.1, I x42.2.2.1, I x42.2.2.2] :: OwnS 27 1 v15 (y17.map cI) :: SS 37 3 1 cI v12 hs19 (y18) :: SS 37 3 1 cI v7 hs102 (y101) :: Bx b4 26 [v15, .slice none 0 0] :: Bx b3 26 [.slice none 0 0, .slice none 0 0] :: PZ 3 1 cI z0 zs zp :: L) a w) ?_ ?_
                    · refine TC.block ?_
                      refine TC.k ?_
                      refine TC.region ?_
                      obtain ⟨x104, hx105, hj103⟩ := bind_some hj103
                      refine TO.s rfl rfl rfl (StepS.idx rfl rfl (OwnS.rd (Ent.at 0 rfl)) ksliceB_37_3_1_true (idx_spec hx105).1 (idxm_lt hx105)) ?_
                      refine TO.s rfl rfl rfl (StepS.ld0 rfl (OwnS.rd (Ent.at 0 rfl)) kscalB_3_true rfl (idxm hx105) rfl) ?_
                      refine TO.s rfl rfl rfl (StepS.assign rfl) ?_
                      refine TO.code ?_
                      refine TC.k ?_
                      refine TC.region ?_
                      refine TO.s rfl rfl rfl (StepS.move rfl) ?_
                      refine TO.s rfl rfl rfl (StepS.fld rfl kfieldB_41_2_2_true) ?_
                      refine TO.s rfl rfl rfl (StepS.ldB rfl (Ent.at 1 rfl) kscalB_3_true rfl) ?_
                      obtain ⟨x106, hx107, hj103⟩ := bind_some hj103
                      refine TO.s rfl rfl rfl (StepS.idxRR rfl rfl (SS.rr (Ent.at 4 rfl)) ksliceB_51_37_1_true hx107) ?_
                      refine TO.s rfl rfl rfl (StepS.ldRR rfl (SS.rr (Ent.at 4 rfl)) kscalB_37_true hx107) ?_
                      refine TO.s rfl rfl rfl (StepS.move rfl) ?_
                      obtain ⟨r109, hc110, hj103⟩ := bind_some hj103
                      refine TO.q rfl rfl rfl (StepQ.call kcallB_16_true rfl rfl (fun _ st => C16 (RR.row (SS.rr (Ent.at 4 rfl)) hx107) hc110 st)) ?_
                      refine TO.s rfl rfl rfl (StepS.not rfl) ?_
                      refine TO.code ?_
                      refine TC.cond rfl (fun hc111 => ?_) (fun hc111 => ?_)
                      · replace hj103 := cond_t hc111 hj103
                        obtain ⟨y113, hj115, hj103⟩ := bind_some hj103
                        first | refine TC.cutM (fun a w => ∃ hs114 : List Value, Mid 280 B [(0, I a0), (1, h1), (4, .pointer (some ⟨b3, 0, none⟩)), (5, .pointer (some ⟨b4, 0, none⟩)), (6, v7), (7, v12), (9, .pointer (some ⟨b44, 0, none⟩)), (10, I 0), (31, h1), (32, I (a1.length : Int)), (33, I x22), (120, v88), (121, I (y86.length : Int)), (122, I x91)] (OwnS 3 1 v88 (y86.map cI) :: Bx b44 41 [I x42.1, I x42.2.1, I x42.2.2.1, I x42.2.2.2] :: OwnS 27 1 v15 (y17.map cI) :: SS 37 3 1 cI v12 hs19 (y18) :: SS 37 3 1 cI v7 hs114 (y113) :: Bx b4 26 [v15, .slice none 0 0] :: Bx b3 26 [.slice none 0 0, .slice none 0 0] :: PZ 3 1 cI z0 zs zp :: L) a w) ?_ ?_ | refine TC.cutX (fun a w => ∃ hs114 : List Value, Mid 280 B [(0, I a0), (1, h1), (4, .pointer (some ⟨b3, 0, none⟩)), (5, .pointer (some ⟨b4, 0, none⟩)), (6, v7), (7, v12), (9, .pointer (some ⟨b44, 0, none⟩)), (10, I 0), (31, h1), (32, I (a1.length : Int)), (33, I x22), (120, v88), (121, I (y86.length : Int)), (122, I x91)] (OwnS 3 1 v88 (y86.map cI) :: Bx b44 41 [I x42.1, I x42.2.1, I x42.2.2.1, I x42.2.2.2] :: OwnS 27 1 v15 (y17.map cI) :: SS 37 3 1 cI v12 hs19 (y18) :: SS 37 3 1 cI v7 hs114 (y113) :: Bx b4 26 [v15, .slice none 0 0] :: Bx b3 26 [.slice none 0 0, .slice none 0 0] :: PZ 3 1 cI z0 zs zp :: L) a w) ?_ ?_
                        · obtain ⟨xq112_6_1, hxq112_6_2, hj115⟩ := bind_some hj115
                          obtain ⟨yq112_10_2, hkq112_10_3, hj115⟩ := bind_some hj115
                          obtain ⟨xq112_11_1, hxq112_11_2, hj115⟩ := bind_some hj115
                          refine TC.region_any (OwnS 3 1 v88 (y86.map cI) :: Bx b44 41 [I x42.1, I x42.2.1, I x42.2.2.1, I x42.2.2.2] :: OwnS 27 1 v15 (y17.map cI) :: SS 37 3 1 cI v12 hs19 (y18) :: Bx b4 26 [v15, .slice none 0 0] :: Bx b3 26 [.slice none 0 0, .slice none 0 0] :: PZ 3 1 cI z0 zs zp :: L) 12 13 kfollows_mixedOrders_true rfl ?_
                          refine TA.takeW 0 rfl rfl rfl rfl (StepS.move rfl) (by kernel_rfl) (by kernel_rfl) (by kernel_rfl) rfl (.inr (fun _ s => Sat.by [7, 7, 7, 6, 6, 6, 6] 7 1 (by kernel_rfl) s)) ?_
                          refine TA.takeW 1 rfl rfl rfl rfl (StepS.fld rfl kfieldB_41_2_2_true) (by kernel_rfl) (by kernel_rfl) (by kernel_rfl) rfl (.inr (fun _ s => Sat.by [7, 7, 7, 6, 6, 6, 6] 7 1 (by kernel_rfl) s)) ?_
                          refine TA.take 2 rfl rfl rfl rfl (StepS.ldB rfl (Ent.at 1 rfl) kscalB_3_true rfl) (by kernel_rfl) (by kernel_rfl) (by kernel_rfl) (by kernel_rfl) (by kernel_rfl) (fun _ s => Sat.by [7, 7, 7, 6, 6, 6, 6] 7 1 (by kernel_rfl) s) ?_
                          refine TA.takeW 3 rfl rfl rfl rfl (StepS.move rfl) (by kernel_rfl) (by kernel_rfl) (by kernel_rfl) rfl (.inr (fun _ s => Sat.by [7, 7, 7, 6, 6, 6, 6] 7 1 (by kernel_rfl) s)) ?_
                          refine TA.takeW 4 rfl rfl rfl rfl (StepS.fld rfl kfieldB_41_2_2_true) (by kernel_rfl) (by kernel_rfl) (by kernel_rfl) rfl (.inr (fun _ s => Sat.by [7, 7, 7, 6, 6, 6, 6] 7 1 (by kernel_rfl) s)) ?_
                          refine TA.take 5 rfl rfl rfl rfl (StepS.ldB rfl (Ent.at 1 rfl) kscalB_3_true rfl) (by kernel_rfl) (by kernel_rfl) (by kernel_rfl) (by kernel_rfl) (by kernel_rfl) (fun _ s => Sat.by [7, 7, 7, 6, 6, 6, 6] 7 1 (by kernel_rfl) s) ?_
                          refine TA.takeW 8 rfl rfl rfl rfl (StepS.move rfl) (by kernel_rfl) (by kernel_rfl) (by kernel_rfl) rfl (.inr (fun _ s => Sat.by [7, 7, 7, 6, 6, 6, 6] 7 1 (by kernel_rfl) s)) ?_
                          refine TA.all2 (i := 6) (j := 9) (by kernel_rfl) ?_ ?_
                          · refine TB.of rfl ?_
                            refine TO.s rfl rfl rfl (StepS.idxRR rfl rfl (SS.rr (Ent.at 4 rfl)) ksliceB_51_37_1_true hxq112_6_2) ?_
                            refine TA.back (.inr (fun _ s => Sat.by [7, 7, 7, 6, 6, 6, 6] 7 1 (by kernel_rfl) s)) ?_
                            refine TA.asL (L' := (OwnS 3 1 v88 (y86.map cI) :: Bx b44 41 [I x42.1, I x42.2.1, I x42.2.2.1, I x42.2.2.2] :: OwnS 27 1 v15 (y17.map cI) :: SS 37 3 1 cI v12 hs19 (y18) :: SS 37 3 1 cI v7 hs90 (y89) :: Bx b4 26 [v15, .slice none 0 0] :: Bx b3 26 [.slice none 0 0, .slice none 0 0] :: PZ 3 1 cI z0 zs zp :: L)) (listed' := #[true, true, true, true, true, true, true, false, true, false, false, false, false]) (by kernel_rfl) (by kernel_rfl) ?_
                            refine TA.all2 (i := 7) (j := 9) (by kernel_rfl) ?_ ?_
                            · refine TB.of rfl ?_
                              refine TO.s rfl rfl rfl (StepS.ldRR rfl (SS.rr (Ent.at 4 rfl)) kscalB_37_true hxq112_6_2) ?_
                              refine TA.back (.inr (fun _ s => Sat.by [7, 7, 7, 6, 6, 6, 6] 7 1 (by kernel_rfl) s)) ?_
                              refine TA.asL (L' := (OwnS 3 1 v88 (y86.map cI) :: Bx b44 41 [I x42.1, I x42.2.1, I x42.2.2.1, I x42.2.2.2] :: OwnS 27 1 v15 (y17.map cI) :: SS 37 3 1 cI v12 hs19 (y18) :: SS 37 3 1 cI v7 hs90 (y89) :: Bx b4 26 [v15, .slice none 0 0] :: Bx b3 26 [.slice none 0 0, .slice none 0 0] :: PZ 3 1 cI z0 zs zp :: L)) (listed' := #[true, true, true, true, true, true, true, true, true, false, false, false, false]) (by kernel_rfl) (by kernel_rfl) ?_
                              refine TA.all1 (i := 9) (by kernel_rfl) ?_
                              refine TB.of rfl ?_
                              refine TO.litS (f := cI) ([x104] : List Int) kelemB_37_3_1_8_true kinfo_3_bind_zero_some_I_0 rfl rfl (fun _ => rfl) rfl rfl (by kernel_rfl) rfl fun vq112_9_1 => ?_
                              refine TA.back (.inr (fun _ s => Sat.by [8, 8, 8, 7, 7, 7, 7] 7 2 (by kernel_rfl) s)) ?_
                              refine TA.asL (L' := (OwnS 3 1 vq112_9_1 (([x104] : List Int).map cI) :: OwnS 3 1 v88 (y86.map cI) :: Bx b44 41 [I x42.1, I x42.2.1, I x42.2.2.1, I x42.2.2.2] :: OwnS 27 1 v15 (y17.map cI) :: SS 37 3 1 cI v12 hs19 (y18) :: SS 37 3 1 cI v7 hs90 (y89) :: Bx b4 26 [v15, .slice none 0 0] :: Bx b3 26 [.slice none 0 0, .slice none 0 0] :: PZ 3 1 cI z0 zs zp :: L)) (listed' := #[true, true, true, true, true, true, true, true, true, true, false, false, false]) (by kernel_rfl) (by kernel_rfl) ?_
                              refine TA.all1 (i := 10) (by kernel_rfl) ?_
                              refine TB.of rfl ?_
                              refine TO.ghost (fun _ s => Sat.front 5 rfl s) ?_
                              refine TO.ghost (fun _ s => Sat.openRow hxq112_6_2 s) ?_
                              refine TO.app (k := 0) (f := cI) kelemB_37_3_1_8_true (by decide) rfl rfl rfl (OwnS.rd (Ent.at 2 rfl)) hkq112_10_3 (fun x c hc => by simp [Value.oneCell'] at hc ⊢; first | (obtain rfl := hc; rfl) | (rcases hc with rfl <;> rfl)) rfl rfl fun vq112_10_4 => ?_
                              refine TA.back (.inr (fun _ s => Sat.by [9, 9, 9, 9, 9, 9, 9] 7 3 (by kernel_rfl) s)) ?_
                              refine TA.asL (L' := (OwnS 3 1 vq112_10_4 (yq112_10_2.map cI) :: SSh 37 3 1 cI v7 hs90 (y89) x42.2.2.1.toNat :: OwnS 3 1 vq112_9_1 (([x104] : List Int).map cI) :: OwnS 3 1 v88 (y86.map cI) :: Bx b44 41 [I x42.1, I x42.2.1, I x42.2.2.1, I x42.2.2.2] :: OwnS 27 1 v15 (y17.map cI) :: SS 37 3 1 cI v12 hs19 (y18) :: Bx b4 26 [v15, .slice none 0 0] :: Bx b3 26 [.slice none 0 0, .slice none 0 0] :: PZ 3 1 cI z0 zs zp :: L)) (listed' := #[true, true, true, true, true, true, true, true, true, true, true, false, false]) (by kernel_rfl) (by kernel_rfl) ?_
                              refine TA.all1 (i := 11) (by kernel_rfl) ?_
                              refine TB.of rfl ?_
                              refine TO.s rfl rfl rfl (StepS.idxRH rfl rfl (Ent.at 1 rfl) ksliceB_51_37_1_true hxq112_11_2) ?_
                              refine TA.back (.inr (fun _ s => Sat.by [9, 9, 9, 9, 9, 9, 9] 7 3 (by kernel_rfl) s)) ?_
                              refine TA.asL (L' := (OwnS 3 1 vq112_10_4 (yq112_10_2.map cI) :: SSh 37 3 1 cI v7 hs90 (y89) x42.2.2.1.toNat :: OwnS 3 1 vq112_9_1 (([x104] : List Int).map cI) :: OwnS 3 1 v88 (y86.map cI) :: Bx b44 41 [I x42.1, I x42.2.1, I x42.2.2.1, I x42.2.2.2] :: OwnS 27 1 v15 (y17.map cI) :: SS 37 3 1 cI v12 hs19 (y18) :: Bx b4 26 [v15, .slice none 0 0] :: Bx b3 26 [.slice none 0 0, .slice none 0 0] :: PZ 3 1 cI z0 zs zp :: L)) (listed' := #[true, true, true, true, true, true, true, true, true, true, true, true, false]) (by kernel_rfl) (by kernel_rfl) ?_
                              refine TA.all1 (i := 12) (by kernel_rfl) ?_
                              refine TB.of rfl ?_
                              refine TO.ghost (fun _ s => Sat.front 1 rfl s) ?_
                              refine TO.stRowH (xs := yq112_10_2) rfl rfl hxq112_11_2 ksizeB_37_1_true ?_
                              refine TA.back (.inl (by kernel_rfl)) ?_
                              refine TA.asL (L' := (SS 37 3 1 cI v7 (hs90.set x42.2.2.1.toNat vq112_10_4) (y89.set x42.2.2.1.toNat yq112_10_2) :: OwnS 3 1 vq112_9_1 (([x104] : List Int).map cI) :: OwnS 3 1 v88 (y86.map cI) :: Bx b44 41 [I x42.1, I x42.2.1, I x42.2.2.1, I x42.2.2.2] :: OwnS 27 1 v15 (y17.map cI) :: SS 37 3 1 cI v12 hs19 (y18) :: Bx b4 26 [v15, .slice none 0 0] :: Bx b3 26 [.slice none 0 0, .slice none 0 0] :: PZ 3 1 cI z0 zs zp :: L)) (listed' := #[true, true, true, true, true, true, true, true, true, true, true, true, true]) (by kernel_rfl) (by kernel_rfl) ?_
                              cases hj115
                              refine TA.nil (by kernel_rfl) fun a w e s => ?_
                              exact ⟨(hs90.set x42.2.2.1.toNat vq112_10_4), e.sub (lk_of_allIn ⟨rfl, rfl, rfl, rfl, rfl, rfl, rfl, rfl, rfl, rfl, rfl, rfl, rfl, rfl, trivial⟩), s.mono fun _ s => (by exact Sat.by [8, 8, 8, 3, 8, 8, 8, 8] 8 1 (by kernel_rfl) s)⟩
                            · refine TB.of rfl ?_
                              refine TO.litS (f := cI) ([x104] : List Int) kelemB_37_3_1_8_true kinfo_3_bind_zero_some_I_0 rfl rfl (fun _ => rfl) rfl rfl (by kernel_rfl) rfl fun vq112_9_1 => ?_
                              refine TA.back (.inr (fun _ s => Sat.by [8, 8, 8, 7, 7, 7, 7] 7 2 (by kernel_rfl) s)) ?_
                              refine TA.asL (L' := (OwnS 3 1 vq112_9_1 (([x104] : List Int).map cI) :: OwnS 3 1 v88 (y86.map cI) :: Bx b44 41 [I x42.1, I x42.2.1, I x42.2.2.1, I x42.2.2.2] :: OwnS 27 1 v15 (y17.map cI) :: SS 37 3 1 cI v12 hs19 (y18) :: SS 37 3 1 cI v7 hs90 (y89) :: Bx b4 26 [v15, .slice none 0 0] :: Bx b3 26 [.slice none 0 0, .slice none 0 0] :: PZ 3 1 cI z0 zs zp :: L)) (listed' := #[true, true, true, true, true, true, true, false, true, true, false, false, false]) (by kernel_rfl) (by kernel_rfl) ?_
                              refine TA.all1 (i := 7) (by kernel_rfl) ?_
                              refine TB.of rfl ?_
                              refine TO.s rfl rfl rfl (StepS.ldRR rfl (SS.rr (Ent.at 5 rfl)) kscalB_37_true hxq112_6_2) ?_
                              refine TA.back (.inr (fun _ s => Sat.by [8, 8, 8, 7, 7, 7, 7] 7 2 (by kernel_rfl) s)) ?_
                              refine TA.asL (L' := (OwnS 3 1 vq112_9_1 (([x104] : List Int).map cI) :: OwnS 3 1 v88 (y86.map cI) :: Bx b44 41 [I x42.1, I x42.2.1, I x42.2.2.1, I x42.2.2.2] :: OwnS 27 1 v15 (y17.map cI) :: SS 37 3 1 cI v12 hs19 (y18) :: SS 37 3 1 cI v7 hs90 (y89) :: Bx b4 26 [v15, .slice none 0 0] :: Bx b3 26 [.slice none 0 0, .slice none 0 0] :: PZ 3 1 cI z0 zs zp :: L)) (listed' := #[true, true, true, true, true, true, true, true, true, true, false, false, false]) (by kernel_rfl) (by kernel_rfl) ?_
                              refine TA.all1 (i := 10) (by kernel_rfl) ?_
                              refine TB.of rfl ?_
                              refine TO.ghost (fun _ s => Sat.front 5 rfl s) ?_
                              refine TO.ghost (fun _ s => Sat.openRow hxq112_6_2 s) ?_
                              refine TO.app (k := 0) (f := cI) kelemB_37_3_1_8_true (by decide) rfl rfl rfl (OwnS.rd (Ent.at 2 rfl)) hkq112_10_3 (fun x c hc => by simp [Value.oneCell'] at hc ⊢; first | (obtain rfl := hc; rfl) | (rcases hc with rfl <;> rfl)) rfl rfl fun vq112_10_4 => ?_
                              refine TA.back (.inr (fun _ s => Sat.by [9, 9, 9, 9, 9, 9, 9] 7 3 (by kernel_rfl) s)) ?_
                              refine TA.asL (L' := (OwnS 3 1 vq112_10_4 (yq112_10_2.map cI) :: SSh 37 3 1 cI v7 hs90 (y89) x42.2.2.1.toNat :: OwnS 3 1 vq112_9_1 (([x104] : List Int).map cI) :: OwnS 3 1 v88 (y86.map cI) :: Bx b44 41 [I x42.1, I x42.2.1, I x42.2.2.1, I x42.2.2.2] :: OwnS 27 1 v15 (y17.map cI) :: SS 37 3 1 cI v12 hs19 (y18) :: Bx b4 26 [v15, .slice none 0 0] :: Bx b3 26 [.slice none 0 0, .slice none 0 0] :: PZ 3 1 cI z0 zs zp :: L)) (listed' := #[true, true, true, true, true, true, true, true, true, true, true, false, false]) (by kernel_rfl) (by kernel_rfl) ?_
                              refine TA.all1 (i := 11) (by kernel_rfl) ?_
                              refine TB.of rfl ?_
                              refine TO.s rfl rfl rfl (StepS.idxRH rfl rfl (Ent.at 1 rfl) ksliceB_51_37_1_true hxq112_11_2) ?_
                              refine TA.back (.inr (fun _ s => Sat.by [9, 9, 9, 9, 9, 9, 9] 7 3 (by kernel_rfl) s)) ?_
                              refine TA.asL (L' := (OwnS 3 1 vq112_10_4 (yq112_10_2.map cI) :: SSh 37 3 1 cI v7 hs90 (y89) x42.2.2.1.toNat :: OwnS 3 1 vq112_9_1 (([x104] : List Int).map cI) :: OwnS 3 1 v88 (y86.map cI) :: Bx b44 41 [I x42.1, I x42.2.1, I x42.2.2.1, I x42.2.2.2] :: OwnS 27 1 v15 (y17.map cI) :: SS 37 3 1 cI v12 hs19 (y18) :: Bx b4 26 [v15, .slice none 0 0] :: Bx b3 26 [.slice none 0 0, .slice none 0 0] :: PZ 3 1 cI z0 zs zp :: L)) (listed' := #[true, true, true, true, true, true, true, true, true, true, true, true, false]) (by kernel_rfl) (by kernel_rfl) ?_
                              refine TA.all1 (i := 12) (by kernel_rfl) ?_
                              refine TB.of rfl ?_
                              refine TO.ghost (fun _ s => Sat.front 1 rfl s) ?_
                              refine TO.stRowH (xs := yq112_10_2) rfl rfl hxq112_11_2 ksizeB_37_1_true ?_
                              refine TA.back (.inl (by kernel_rfl)) ?_
                              refine TA.asL (L' := (SS 37 3 1 cI v7 (hs90.set x42.2.2.1.toNat vq112_10_4) (y89.set x42.2.2.1.toNat yq112_10_2) :: OwnS 3 1 vq112_9_1 (([x104] : List Int).map cI) :: OwnS 3 1 v88 (y86.map cI) :: Bx b44 41 [I x42.1, I x42.2.1, I x42.2.2.1, I x42.2.2.2] :: OwnS 27 1 v15 (y17.map cI) :: SS 37 3 1 cI v12 hs19 (y18) :: Bx b4 26 [v15, .slice none 0 0] :: Bx b3 26 [.slice none 0 0, .slice none 0 0] :: PZ 3 1 cI z0 zs zp :: L)) (listed' := #[true, true, true, true, true, true, true, true, true, true, true, true, true]) (by kernel_rfl) (by kernel_rfl) ?_
                              cases hj115
                              refine TA.nil (by kernel_rfl) fun a w e s => ?_
                              exact ⟨(hs90.set x42.2.2.1.toNat vq112_10_4), e.sub (lk_of_allIn ⟨rfl, rfl, rfl, rfl, rfl, rfl, rfl, rfl, rfl, rfl, rfl, rfl, rfl, rfl, trivial⟩), s.mono fun _ s => (by exact Sat.by [8, 8, 8, 3, 8, 8, 8, 8] 8 1 (by kernel_rfl) s)⟩
                          · refine TB.of rfl ?_
                            refine TO.litS (f := cI) ([x104] : List Int) kelemB_37_3_1_8_true kinfo_3_bind_zero_some_I_0 rfl rfl (fun _ => rfl) rfl rfl (by kernel_rfl) rfl fun vq112_9_1 => ?_
                            refine TA.back (.inr (fun _ s => Sat.by [8, 8, 8, 7, 7, 7, 7] 7 2 (by kernel_rfl) s)) ?_
                            refine TA.asL (L' := (OwnS 3 1 vq112_9_1 (([x104] : List Int).map cI) :: OwnS 3 1 v88 (y86.map cI) :: Bx b44 41 [I x42.1, I x42.2.1, I x42.2.2.1, I x42.2.2.2] :: OwnS 27 1 v15 (y17.map cI) :: SS 37 3 1 cI v12 hs19 (y18) :: SS 37 3 1 cI v7 hs90 (y89) :: Bx b4 26 [v15, .slice none 0 0] :: Bx b3 26 [.slice none 0 0, .slice none 0 0] :: PZ 3 1 cI z0 zs zp :: L)) (listed' := #[true, true, true, true, true, true, false, false, true, true, false, false, false]) (by kernel_rfl) (by kernel_rfl) ?_
                            refine TA.all1 (i := 6) (by kernel_rfl) ?_
                            refine TB.of rfl ?_
                            refine TO.s rfl rfl rfl (StepS.idxRR rfl rfl (SS.rr (Ent.at 5 rfl)) ksliceB_51_37_1_true hxq112_6_2) ?_
                            refine TA.back (.inr (fun _ s => Sat.by [8, 8, 8, 7, 7, 7, 7] 7 2 (by kernel_rfl) s)) ?_
                            refine TA.asL (L' := (OwnS 3 1 vq112_9_1 (([x104] : List Int).map cI) :: OwnS 3 1 v88 (y86.map cI) :: Bx b44 41 [I x42.1, I x42.2.1, I x42.2.2.1, I x42.2.2.2] :: OwnS 27 1 v15 (y17.map cI) :: SS 37 3 1 cI v12 hs19 (y18) :: SS 37 3 1 cI v7 hs90 (y89) :: Bx b4 26 [v15, .slice none 0 0] :: Bx b3 26 [.slice none 0 0, .slice none 0 0] :: PZ 3 1 cI z0 zs zp :: L)) (listed' := #[true, true, true, true, true, true, true, false, true, true, false, false, false]) (by kernel_rfl) (by kernel_rfl) ?_
                            refine TA.all1 (i := 7) (by kernel_rfl) ?_
                            refine TB.of rfl ?_
                            refine TO.s rfl rfl rfl (StepS.ldRR rfl (SS.rr (Ent.at 5 rfl)) kscalB_37_true hxq112_6_2) ?_
                            refine TA.back (.inr (fun _ s => Sat.by [8, 8, 8, 7, 7, 7, 7] 7 2 (by kernel_rfl) s)) ?_
                            refine TA.asL (L' := (OwnS 3 1 vq112_9_1 (([x104] : List Int).map cI) :: OwnS 3 1 v88 (y86.map cI) :: Bx b44 41 [I x42.1, I x42.2.1, I x42.2.2.1, I x42.2.2.2] :: OwnS 27 1 v15 (y17.map cI) :: SS 37 3 1 cI v12 hs19 (y18) :: SS 37 3 1 cI v7 hs90 (y89) :: Bx b4 26 [v15, .slice none 0 0] :: Bx b3 26 [.slice none 0 0, .slice none 0 0] :: PZ 3 1 cI z0 zs zp :: L)) (listed' := #[true, true, true, true, true, true, true, true, true, true, false, false, false]) (by kernel_rfl) (by kernel_rfl) ?_
                            refine TA.all1 (i := 10) (by kernel_rfl) ?_
                            refine TB.of rfl ?_
                            refine TO.ghost (fun _ s => Sat.front 5 rfl s) ?_
                            refine TO.ghost (fun _ s => Sat.openRow hxq112_6_2 s) ?_
                            refine TO.app (k := 0) (f := cI) kelemB_37_3_1_8_true (by decide) rfl rfl rfl (OwnS.rd (Ent.at 2 rfl)) hkq112_10_3 (fun x c hc => by simp [Value.oneCell'] at hc ⊢; first | (obtain rfl := hc; rfl) | (rcases hc with rfl <;> rfl)) rfl rfl fun vq112_10_4 => ?_
                            refine TA.back (.inr (fun _ s => Sat.by [9, 9, 9, 9, 9, 9, 9] 7 3 (by kernel_rfl) s)) ?_
                            refine TA.asL (L' := (OwnS 3 1 vq112_10_4 (yq112_10_2.map cI) :: SSh 37 3 1 cI v7 hs90 (y89) x42.2.2.1.toNat :: OwnS 3 1 vq112_9_1 (([x104] : List Int).map cI) :: OwnS 3 1 v88 (y86.map cI) :: Bx b44 41 [I x42.1, I x42.2.1, I x42.2.2.1, I x42.2.2.2] :: OwnS 27 1 v15 (y17.map cI) :: SS 37 3 1 cI v12 hs19 (y18) :: Bx b4 26 [v15, .slice none 0 0] :: Bx b3 26 [.slice none 0 0, .slice none 0 0] :: PZ 3 1 cI z0 zs zp :: L)) (listed' := #[true, true, true, true, true, true, true, true, true, true, true, false, false]) (by kernel_rfl) (by kernel_rfl) ?_
                            refine TA.all1 (i := 11) (by kernel_rfl) ?_
                            refine TB.of rfl ?_
                            refine TO.s rfl rfl rfl (StepS.idxRH rfl rfl (Ent.at 1 rfl) ksliceB_51_37_1_true hxq112_11_2) ?_
                            refine TA.back (.inr (fun _ s => Sat.by [9, 9, 9, 9, 9, 9, 9] 7 3 (by kernel_rfl) s)) ?_
                            refine TA.asL (L' := (OwnS 3 1 vq112_10_4 (yq112_10_2.map cI) :: SSh 37 3 1 cI v7 hs90 (y89) x42.2.2.1.toNat :: OwnS 3 1 vq112_9_1 (([x104] : List Int).map cI) :: OwnS 3 1 v88 (y86.map cI) :: Bx b44 41 [I x42.1, I x42.2.1, I x42.2.2.1, I x42.2.2.2] :: OwnS 27 1 v15 (y17.map cI) :: SS 37 3 1 cI v12 hs19 (y18) :: Bx b4 26 [v15, .slice none 0 0] :: Bx b3 26 [.slice none 0 0, .slice none 0 0] :: PZ 3 1 cI z0 zs zp :: L)) (listed' := #[true, true, true, true, true, true, true, true, true, true, true, true, false]) (by kernel_rfl) (by kernel_rfl) ?_
                            refine TA.all1 (i := 12) (by kernel_rfl) ?_
                            refine TB.of rfl ?_
                            refine TO.ghost (fun _ s => Sat.front 1 rfl s) ?_
                            refine TO.stRowH (xs := yq112_10_2) rfl rfl hxq112_11_2 ksizeB_37_1_true ?_
                            refine TA.back (.inl (by kernel_rfl)) ?_
                            refine TA.asL (L' := (SS 37 3 1 cI v7 (hs90.set x42.2.2.1.toNat vq112_10_4) (y89.set x42.2.2.1.toNat yq112_10_2) :: OwnS 3 1 vq112_9_1 (([x104] : List Int).map cI) :: OwnS 3 1 v88 (y86.map cI) :: Bx b44 41 [I x42.1, I x42.2.1, I x42.2.2.1, I x42.2.2.2] :: OwnS 27 1 v15 (y17.map cI) :: SS 37 3 1 cI v12 hs19 (y18) :: Bx b4 26 [v15, .slice none 0 0] :: Bx b3 26 [.slice none 0 0, .slice none 0 0] :: PZ 3 1 cI z0 zs zp :: L)) (listed' := #[true, true, true, true, true, true, true, true, true, true, true, true, true]) (by kernel_rfl) (by kernel_rfl) ?_
                            cases hj115
                            refine TA.nil (by kernel_rfl) fun a w e s => ?_
                            exact ⟨(hs90.set x42.2.2.1.toNat vq112_10_4), e.sub (lk_of_allIn ⟨rfl, rfl, rfl, rfl, rfl, rfl, rfl, rfl, rfl, rfl, rfl, rfl, rfl, rfl, trivial⟩), s.mono fun _ s => (by exact Sat.by [8, 8, 8, 3, 8, 8, 8, 8] 8 1 (by kernel_rfl) s)⟩
                        · intro a w ⟨hs114, he, hs⟩
                          cases hj103
                          have e := he; have s := hs
                          exact ⟨hs114, e.sub (lk_of_allIn ⟨rfl, rfl, rfl, rfl, rfl, rfl, rfl, rfl, rfl, rfl, rfl, rfl, rfl, rfl, trivial⟩), s⟩
                      · replace hj103 := cond_f hc111 hj103
                        cases hj103
                        refine TC.skip fun a w e s => ?_
                        exact ⟨hs90, e.sub (lk_of_allIn ⟨rfl, rfl, rfl, rfl, rfl, rfl, rfl, rfl, rfl, rfl, rfl, rfl, rfl, rfl, trivial⟩), s⟩
                    · intro a w ⟨hs102, he, hs⟩
                      refine TC.use ?_ he hs
                      refine TC.region ?_
                      refine TO.s rfl rfl rfl (StepS.ari rfl rfl rfl) ?_
                      refine TO.s rfl rfl rfl (StepS.move rfl) ?_
                      cases hb99
                      refine TO.nil fun a w e s => ?_
                      exact ⟨hs102, e.sub (lk_of_allIn ⟨rfl, rfl, rfl, rfl, rfl, rfl, rfl, rfl, rfl, rfl, rfl, rfl, rfl, rfl, trivial⟩), s⟩
                  · replace hb99 := cond_f hc100 hb99
                    cases hb99
                    refine TC.exit rfl fun a w e s => ?_
                    exact ⟨hs90, e.sub (lk_of_allIn ⟨rfl, rfl, rfl, rfl, rfl, rfl, rfl, rfl, rfl, rfl, trivial⟩), s⟩
                · exact fun a w e s => ⟨hs21, e.sub (lk_of_allIn ⟨rfl, rfl, rfl, rfl, rfl, rfl, rfl, rfl, rfl, rfl, rfl, rfl, rfl, rfl, trivial⟩), s⟩
                · rintro y95 rfl a w ⟨hs96, he, hs⟩
                  dsimp only [Ctl.on] at hj51
                  cases hj51
                  have e := he; have s := hs
                  exact ⟨hs19, hs96, e.sub (lk_of_allIn ⟨rfl, rfl, rfl, rfl, rfl, rfl, rfl, rfl, rfl, rfl, trivial⟩), s.mono fun _ => Sat.dropN 1⟩
                · rintro r rfl
                  exact fun a w h => h.elim
      · intro a w ⟨hs47, hs49, he, hs⟩
        refine TC.use ?_ he hs
        refine TC.region ?_
        refine TO.s rfl rfl rfl (StepS.fld rfl kfieldB_26_0_0_true) ?_
        refine TO.s rfl rfl rfl (StepS.ldB rfl (Ent.at 4 rfl) kscalB_23_true rfl) ?_
        refine TO.s rfl rfl rfl (StepS.move rfl) ?_
        refine TO.litS (f := cI) ([x50] : List Int) kelemB_23_27_1_8_true kinfo_27_bind_zero_some_I_0 rfl rfl (fun _ => rfl) rfl rfl (by kernel_rfl) rfl fun v116 => ?_
        obtain ⟨y118, hk119, hb40⟩ := bind_some hb40
        refine TO.app (k := 2) (f := cI) kelemB_23_27_1_8_true (by decide) rfl rfl rfl (OwnS.rd (Ent.at 0 rfl)) hk119 (fun x c hc => by simp [Value.oneCell'] at hc ⊢; first | (obtain rfl := hc; rfl) | (rcases hc with rfl <;> rfl)) rfl rfl fun v120 => ?_
        refine TO.s rfl rfl rfl (StepS.fld rfl kfieldB_26_0_0_true) ?_
        refine TO.pure (fun _ s => Rd.one (OwnS.rd (Ent.at 2 rfl)) s) fun oc121 => ?_
        refine TO.stB (us := [v120]) 5 [v120, .slice none 0 0] rfl rfl rfl ksizeB_23_1_true oc121.2 rfl rfl (by intro u hu; simp only [List.mem_cons, List.not_mem_nil, or_false] at hu; rcases hu with rfl <;> first | exact oc121.1 | rfl) rfl ?_
        refine TO.code ?_
        refine TC.region ?_
        refine TO.s rfl rfl rfl (StepS.ari rfl rfl rfl) ?_
        refine TO.s rfl rfl rfl (StepS.move rfl) ?_
        cases hb40
        refine TO.nil fun a w e s => ?_
        exact ⟨v120, hs47, hs49, e.sub (lk_of_allIn ⟨rfl, rfl, rfl, rfl, rfl, rfl, rfl, rfl, rfl, trivial⟩), s.mono fun _ => Sat.dropN 2⟩
    · replace hb40 := cond_f hc41 hb40
      cases hb40
      refine TC.exit rfl fun a w e s => ?_
      exact ⟨v15, hs19, hs21, e.sub (lk_of_allIn ⟨rfl, rfl, rfl, rfl, rfl, rfl, trivial⟩), s⟩
  · exact fun a w e s => ⟨.slice none 0 0, hs13, hs8, e.sub (lk_of_allIn ⟨rfl, rfl, rfl, rfl, rfl, rfl, rfl, rfl, rfl, trivial⟩), s.mono fun _ s => (by replace s := Sat.nilS (e := 27) (sz := 1) (f := cI) s; exact Sat.by [5, 5, 5, 5, 5, 5] 6 0 (by kernel_rfl) s)⟩
  · rintro ⟨y33, y34, y36⟩ rfl a w ⟨v31, hs35, hs37, he, hs⟩
    dsimp only [Ctl.on] at hm
    refine TC.use ?_ he hs
    refine TC.k ?_
    refine TC.k ?_
    refine TC.region ?_
    refine TO.s rfl rfl rfl (StepS.assign rfl) ?_
    refine TO.code ?_
    obtain ⟨o139, hw140, hm⟩ := bind_some hm
    refine TC.loop hw140 (fun (y125, y126, x127) => fun a w => ∃ v122 : Value, ∃ hs123 : List Value, ∃ zs : List ZH, Mid 280 B [(0, I a0), (1, h1), (4, .pointer (some ⟨b3, 0, none⟩)), (5, .pointer (some ⟨b4, 0, none⟩)), (6, v7), (7, v12), (13, I x127)] (SS 34 44 2 (cZ44 zs) v122 hs123 (y125) :: OwnS 27 1 v31 (y33.map cI) :: SS 37 3 1 cI v12 hs35 (y34) :: SS 37 3 1 cI v7 hs37 (y36) :: Bx b4 26 [v31, v122] :: Bx b3 26 [.slice none 0 0, .slice none 0 0] :: PZ 3 1 cI z0 zs y126 :: L) a w) (fun (y137, y138) => fun a w => ∃ v134 : Value, ∃ hs135 : List Value, ∃ zs : List ZH, Mid 280 B [(4, .pointer (some ⟨b3, 0, none⟩)), (5, .pointer (some ⟨b4, 0, none⟩))] (SS 34 44 2 (cZ44 zs) v134 hs135 (y137) :: OwnS 27 1 v31 (y33.map cI) :: SS 37 3 1 cI v12 hs35 (y34) :: SS 37 3 1 cI v7 hs37 (y36) :: Bx b4 26 [v31, v134] :: Bx b3 26 [.slice none 0 0, .slice none 0 0] :: PZ 3 1 cI z0 zs y138 :: L) a w) (fun (_ : Unit) _ _ => False) ?_ ?_ ?_ ?_
    · rintro ⟨y125, y126, x127⟩ o139r hb141 a w ⟨v122, hs123, zs, he, hs⟩
      dsimp only [F6_L2] at hb141
      refine TC.use ?_ he hs
      refine TC.k ?_
      refine TC.k ?_
      refine TC.region ?_
      refine TO.s rfl rfl rfl (StepS.move rfl) ?_
      refine TO.s rfl rfl rfl (StepS.move rfl) ?_
      refine TO.s rfl rfl rfl (StepS.cmp rfl rfl rfl) ?_
      refine TO.code ?_
      refine TC.cond rfl (fun hc142 => ?_) (fun hc142 => ?_)
      · replace hb141 := cond_t hc142 hb141
        refine TC.skipk ?_
        refine TC.k ?_
        refine TC.block ?_
        refine TC.k ?_
        refine TC.region ?_
        refine TO.s rfl rfl rfl (StepS.assign rfl) ?_
        refine TO.code ?_
        refine TC.k ?_
        refine TC.k ?_
        refine TC.region ?_
        refine TO.s rfl rfl rfl (StepS.move rfl) ?_
        refine TO.s rfl rfl rfl (StepS.move rfl) ?_
        obtain ⟨x143, hx144, hb141⟩ := bind_some hb141
        refine TO.s rfl rfl rfl (StepS.idxRR rfl rfl (SS.rr (Ent.at 3 rfl)) ksliceB_51_37_1_true hx144) ?_
        refine TO.s rfl rfl rfl (StepS.ldRR rfl (SS.rr (Ent.at 3 rfl)) kscalB_37_true hx144) ?_
        refine TO.s rfl rfl rfl (StepS.lenm rfl (RR.row (SS.rr (Ent.at 3 rfl)) hx144) ksliceB_37_3_1_true rfl) ?_
        refine TO.s rfl rfl rfl (StepS.move rfl) ?_
        refine TO.code ?_
        obtain ⟨o160, hw161, hb141⟩ := bind_some hb141
        refine TC.loop hw161 (fun (y148, y149, x150) => fun a w => ∃ v146 : Value, ∃ zs : List ZH, Mid 280 B [(0, I a0), (1, h1), (4, .pointer (some ⟨b3, 0, none⟩)), (5, .pointer (some ⟨b4, 0, none⟩)), (6, v7), (7, v12), (13, I x127), (14, v146), (162, (rowv hs37 x127.toNat)), (163, I (x143.length : Int)), (164, I x150)] (OwnS 44 2 v146 (y148.map (cZ44 zs)) :: SS 34 44 2 (cZ44 zs) v122 hs123 (y125) :: OwnS 27 1 v31 (y33.map cI) :: SS 37 3 1 cI v12 hs35 (y34) :: SS 37 3 1 cI v7 hs37 (y36) :: Bx b4 26 [v31, v122] :: Bx b3 26 [.slice none 0 0, .slice none 0 0] :: PZ 3 1 cI z0 zs y149 :: L) a w) (fun (y158, y159) => fun a w => ∃ v156 : Value, ∃ zs : List ZH, Mid 280 B [(0, I a0), (1, h1), (4, .pointer (some ⟨b3, 0, none⟩)), (5, .pointer (some ⟨b4, 0, none⟩)), (6, v7), (7, v12), (13, I x127), (14, v156)] (OwnS 44 2 v156 (y158.map (cZ44 zs)) :: SS 34 44 2 (cZ44 zs) v122 hs123 (y125) :: OwnS 27 1 v31 (y33.map cI) :: SS 37 3 1 cI v12 hs35 (y34) :: SS 37 3 1 cI v7 hs37 (y36) :: Bx b4 26 [v31, v122] :: Bx b3 26 [.slice none 0 0, .slice none 0 0] :: PZ 3 1 cI z0 zs y159 :: L) a w) (fun (_ : Unit) _ _ => False) ?_ ?_ ?_ ?_
        · rintro ⟨y148, y149, x150⟩ o160r hb162 a w ⟨v146, zs, he, hs⟩
          dsimp only [F6_L3] at hb162
          refine TC.use ?_ he hs
          refine TC.k ?_
          refine TC.region ?_
          refine TO.s rfl rfl rfl (StepS.cmp rfl rfl rfl) ?_
          refine TO.code ?_
          refine TC.k ?_
          refine TC.cond rfl (fun hc163 => ?_) (fun hc163 => ?_)
          · replace hb162 := cond_t hc163 hb162
            refine TC.skipk ?_
            refine TC.k ?_
            obtain ⟨⟨y164, y166⟩, hj167, hb162⟩ := bind_some hb162
            first | refine TC.cutM (fun a w => ∃ v165 : Value, ∃ zs : List ZH, Mid 280 B [(0, I a0), (1, h1), (4, .pointer (some ⟨b3, 0, none⟩)), (5, .pointer (some ⟨b4, 0, none⟩)), (6, v7), (7, v12), (13, I x127), (14, v165), (162, (rowv hs37 x127.toNat)), (163, I (x143.length : Int)), (164, I x150)] (OwnS 44 2 v165 (y164.map (cZ44 zs)) :: SS 34 44 2 (cZ44 zs) v122 hs123 (y125) :: OwnS 27 1 v31 (y33.map cI) :: SS 37 3 1 cI v12 hs35 (y34) :: SS 37 3 1 cI v7 hs37 (y36) :: Bx b4 26 [v31, v122] :: Bx b3 26 [.slice none 0 0, .slice none 0 0] :: PZ 3 1 cI z0 zs y166 :: L) a w) ?_ ?_ | refine TC.cutX (fun a w => ∃ v165 : Value, ∃ zs : List ZH, Mid 280 B [(0, I a0), (1, h1), (4, .pointer (some ⟨b3, 0, none⟩)), (5, .pointer (some ⟨b4, 0, none⟩)), (6, v7), (7, v12), (13, I x127), (14, v165), (162, (rowv hs37 x127.toNat)), (163, I (x143.length : Int)), (164, I x150)] (OwnS 44 2 v165 (y164.map (cZ44 zs)) :: SS 34 44 2 (cZ44 zs) v122 hs123 (y125) :: OwnS 27 1 v31 (y33.map cI) :: SS 37 3 1 cI v12 hs35 (y34) :: SS 37 3 1 cI v7 hs37 (y36) :: Bx b4 26 [v31, v122] :: Bx b3 26 [.slice none 0 0, .slice none 0 0] :: PZ 3 1 cI z0 zs y166 :: L) a w) ?_ ?_
            · refine TC.block ?_
              refine TC.k ?_
              refine TC.region ?_
              obtain ⟨x168, hx169, hj167⟩ := bind_some hj167
              refine TO.s rfl rfl rfl (StepS.idx rfl rfl (RR.row (SS.rr (Ent.at 4 rfl)) hx144) ksliceB_37_3_1_true (idx_spec hx169).1 (idxm_lt hx169)) ?_
              refine TO.s rfl rfl rfl (StepS.ld0 rfl (RR.row (SS.rr (Ent.at 4 rfl)) hx144) kscalB_3_true rfl (idxm hx169) rfl) ?_
              refine TO.s rfl rfl rfl (StepS.assign rfl) ?_
              refine TO.code ?_
              refine TC.k ?_
              refine TC.region ?_
              refine TO.s rfl rfl rfl (StepS.assign rfl) ?_
              refine TO.code ?_
              refine TC.k ?_
              refine TC.k ?_
              refine TC.region ?_
              refine TO.s rfl rfl rfl (StepS.move rfl) ?_
              refine TO.s rfl rfl rfl (StepS.move rfl) ?_
              obtain ⟨x170, hx171, hj167⟩ := bind_some hj167
              refine TO.s rfl rfl rfl (StepS.idxRR rfl rfl (SS.rr (Ent.at 4 rfl)) ksliceB_51_37_1_true hx171) ?_
              refine TO.s rfl rfl rfl (StepS.ldRR rfl (SS.rr (Ent.at 4 rfl)) kscalB_37_true hx171) ?_
              refine TO.s rfl rfl rfl (StepS.lenm rfl (RR.row (SS.rr (Ent.at 4 rfl)) hx171) ksliceB_37_3_1_true rfl) ?_
              refine TO.s rfl rfl rfl (StepS.move rfl) ?_
              refine TO.code ?_
              obtain ⟨o178, hw179, hj167⟩ := bind_some hj167
              refine TC.loop hw179 (fun (b173, x174) => fun a w => Mid 280 B [(0, I a0), (1, h1), (4, .pointer (some ⟨b3, 0, none⟩)), (5, .pointer (some ⟨b4, 0, none⟩)), (6, v7), (7, v12), (13, I x127), (14, v146), (16, I x168), (17, .bool b173), (162, (rowv hs37 x127.toNat)), (163, I (x143.length : Int)), (164, I x150), (171, (rowv hs37 x127.toNat)), (172, I (x170.length : Int)), (173, I x174)] (OwnS 44 2 v146 (y148.map (cZ44 zs)) :: SS 34 44 2 (cZ44 zs) v122 hs123 (y125) :: OwnS 27 1 v31 (y33.map cI) :: SS 37 3 1 cI v12 hs35 (y34) :: SS 37 3 1 cI v7 hs37 (y36) :: Bx b4 26 [v31, v122] :: Bx b3 26 [.slice none 0 0, .slice none 0 0] :: PZ 3 1 cI z0 zs y149 :: L) a w) (fun b177 => fun a w => Mid 280 B [(0, I a0), (1, h1), (4, .pointer (some ⟨b3, 0, none⟩)), (5, .pointer (some ⟨b4, 0, none⟩)), (6, v7), (7, v12), (13, I x127), (14, v146), (16, I x168), (17, .bool b177), (162, (rowv hs37 x127.toNat)), (163, I (x143.length : Int)), (164, I x150)] (OwnS 44 2 v146 (y148.map (cZ44 zs)) :: SS 34 44 2 (cZ44 zs) v122 hs123 (y125) :: OwnS 27 1 v31 (y33.map cI) :: SS 37 3 1 cI v12 hs35 (y34) :: SS 37 3 1 cI v7 hs37 (y36) :: Bx b4 26 [v31, v122] :: Bx b3 26 [.slice none 0 0, .slice none 0 0] :: PZ 3 1 cI z0 zs y149 :: L) a w) (fun (_ : Unit) _ _ => False) ?_ ?_ ?_ ?_
              · rintro ⟨b173, x174⟩ o178r hb180 a w ⟨he, hs⟩
                dsimp only [F6_L4] at hb180
                refine TC.use ?_ he hs
                refine TC.k ?_
                refine TC.region ?_
                refine TO.s rfl rfl rfl (StepS.cmp rfl rfl rfl) ?_
                refine TO.code ?_
                refine TC.k ?_
                refine TC.cond rfl (fun hc181 => ?_) (fun hc181 => ?_)
                · replace hb180 := cond_t hc181 hb180
                  refine TC.skipk ?_
                  refine TC.k ?_
                  refine TC.block ?_
                  refine TC.k ?_
                  refine TC.region ?_
                  obtain ⟨x182, hx183, hb180⟩ := bind_some hb180
                  refine TO.s rfl rfl rfl (StepS.idx rfl rfl (RR.row (SS.rr (Ent.at 4 rfl)) hx171) ksliceB_37_3_1_true (idx_spec hx183).1 (idxm_lt hx183)) ?_
                  refine TO.s rfl rfl rfl (StepS.ld0 rfl (RR.row (SS.rr (Ent.at 4 rfl)) hx171) kscalB_3_true rfl (idxm hx183) rfl) ?_
                  refine TO.s rfl rfl rfl (StepS.assign rfl) ?_
                  refine TO.code ?_
                  refine TC.region ?_
                  refine TO.s rfl rfl rfl (StepS.move rfl) ?_
                  refine TO.s rfl rfl rfl (StepS.move rfl) ?_
                  obtain ⟨b185, hj186, hb180⟩ := bind_some hb180
                  refine TO.mid1 13 191 (.bool b185) ?_ ?_
                  · refine bcase (b173) (fun hb184 => ?_) (fun hb184 => ?_)
                    · replace hj186 := cond_t hb184 hj186
                      refine TO.sw rfl rfl rfl hb184 rfl rfl (StepS.move rfl) ?_
                      refine TO.sw rfl rfl rfl hb184 rfl rfl (StepS.move rfl) ?_
                      refine TO.sw rfl rfl rfl hb184 rfl rfl (StepS.cmp rfl rfl rfl) ?_
                      refine TO.sw rfl rfl rfl hb184 rfl rfl (StepS.move rfl) ?_
                      obtain ⟨b188, hj189, hj186⟩ := bind_some hj186
                      refine TO.mid1 8 190 (.bool b188) ?_ ?_
                      · refine bcase ((x182 == x168)) (fun hb187 => ?_) (fun hb187 => ?_)
                        · replace hj189 := cond_t hb187 hj189
                          cases hj189
                          refine TO.skip rfl rfl rfl (skipT hb187) rfl rfl ?_
                          refine TO.skip rfl rfl rfl (skipT hb187) rfl rfl ?_
                          refine TO.skip rfl rfl rfl (skipT hb187) rfl rfl ?_
                          refine TO.skip rfl rfl rfl (skipT hb187) rfl rfl ?_
                          refine TO.skip rfl rfl rfl (skipT hb187) rfl rfl ?_
                          refine TO.skip rfl rfl rfl (skipT hb187) rfl rfl ?_
                          refine TO.skip rfl rfl rfl (skipT hb187) rfl rfl ?_
                          refine TO.sw rfl rfl rfl hb184 rfl rfl (StepS.pickT rfl hb187 rfl) ?_
                          exact TO.up1 8 0 rfl rfl rfl rfl
                        · replace hj189 := cond_f hb187 hj189
                          refine TO.sw rfl rfl rfl hb187 rfl rfl (StepS.move rfl) ?_
                          refine TO.sw rfl rfl rfl hb187 rfl rfl (StepS.move rfl) ?_
                          obtain ⟨x190, hx191, hj189⟩ := bind_some hj189
                          refine TO.sw rfl rfl rfl hb187 rfl rfl (StepS.idxRR rfl rfl (SS.rr (Ent.at 3 rfl)) ksliceB_51_37_1_true hx191) ?_
                          refine TO.sw rfl rfl rfl hb187 rfl rfl (StepS.ldRR rfl (SS.rr (Ent.at 3 rfl)) kscalB_37_true hx191) ?_
                          refine TO.sw rfl rfl rfl hb187 rfl rfl (StepS.move rfl) ?_
                          obtain ⟨r193, hc194, hj189⟩ := bind_some hj189
                          refine TO.qw rfl rfl rfl hb187 rfl rfl (StepQ.call kcallB_16_true rfl rfl (fun _ st => C16 (RR.row (SS.rr (Ent.at 3 rfl)) hx191) hc194 st)) ?_
                          refine TO.sw rfl rfl rfl hb187 rfl rfl (StepS.not rfl) ?_
                          cases hj189
                          refine TO.sw rfl rfl rfl hb184 rfl rfl (StepS.pickF rfl hb187 rfl) ?_
                          exact TO.up1 8 0 rfl rfl rfl rfl
                      cases hj186
                      refine TO.s rfl rfl rfl (StepS.pickT rfl hb184 rfl) ?_
                      exact TO.up1 6 0 rfl rfl rfl rfl
                    · replace hj186 := cond_f hb184 hj186
                      cases hj186
                      refine TO.skip rfl rfl rfl (skipF hb184) rfl rfl ?_
                      refine TO.skip rfl rfl rfl (skipF hb184) rfl rfl ?_
                      refine TO.skip rfl rfl rfl (skipF hb184) rfl rfl ?_
                      refine TO.skip rfl rfl rfl (skipF hb184) rfl rfl ?_
                      refine TO.skip rfl rfl rfl skipU rfl rfl ?_
                      refine TO.skip rfl rfl rfl skipU rfl rfl ?_
                      refine TO.skip rfl rfl rfl skipU rfl rfl ?_
                      refine TO.skip rfl rfl rfl skipU rfl rfl ?_
                      refine TO.skip rfl rfl rfl skipU rfl rfl ?_
                      refine TO.skip rfl rfl rfl skipU rfl rfl ?_
                      refine TO.skip rfl rfl rfl skipU rfl rfl ?_
                      refine TO.skip rfl rfl rfl (skipF hb184) rfl rfl ?_
                      refine TO.s rfl rfl rfl (StepS.pickF rfl hb184 rfl) ?_
                      exact TO.up1 13 0 rfl rfl rfl rfl
                  refine TO.s rfl rfl rfl (StepS.assign rfl) ?_
                  refine TO.code ?_
                  refine TC.region ?_
                  refine TO.s rfl rfl rfl (StepS.ari rfl rfl rfl) ?_
                  refine TO.s rfl rfl rfl (StepS.move rfl) ?_
                  cases hb180
                  refine TO.nil fun a w e s => ?_
                  exact ⟨e.sub (lk_of_allIn ⟨rfl, rfl, rfl, rfl, rfl, rfl, rfl, rfl, rfl, rfl, rfl, rfl, rfl, rfl, rfl, rfl, trivial⟩), s⟩
                · replace hb180 := cond_f hc181 hb180
                  cases hb180
                  refine TC.exit rfl fun a w e s => ?_
                  exact ⟨e.sub (lk_of_allIn ⟨rfl, rfl, rfl, rfl, rfl, rfl, rfl, rfl, rfl, rfl, rfl, rfl, rfl, trivial⟩), s⟩
              · exact fun a w e s => ⟨e.sub (lk_of_allIn ⟨rfl, rfl, rfl, rfl, rfl, rfl, rfl, rfl, rfl, rfl, rfl, rfl, rfl, rfl, rfl, rfl, trivial⟩), s⟩
              · rintro b177 rfl a w ⟨he, hs⟩
                dsimp only [Ctl.on] at hj167
                refine TC.use ?_ he hs
                refine TC.k ?_
                refine TC.k ?_
                refine TC.region ?_
                refine TO.s rfl rfl rfl (StepS.move rfl) ?_
                refine TO.s rfl rfl rfl (StepS.not rfl) ?_
                refine TO.code ?_
                refine TC.cond rfl (fun hc195 => ?_) (fun hc195 => ?_)
                · replace hj167 := cond_t hc195 hj167
                  cases hj167
                  refine TC.exit rfl fun a w e s => ?_
                  exact ⟨v146, zs, e.sub (lk_of_allIn ⟨rfl, rfl, rfl, rfl, rfl, rfl, rfl, rfl, rfl, rfl, rfl, trivial⟩), s⟩
                · replace hj167 := cond_f hc195 hj167
                  refine TC.skipk ?_
                  refine TC.k ?_
                  refine TC.region ?_
                  refine TO.s rfl rfl rfl (StepS.move rfl) ?_
                  obtain ⟨y196, hk197, hj167⟩ := bind_some hj167
                  refine TO.mkS (f := cI) (za := 0) kelemB_37_3_1_8_true kinfo_3_bind_zero_some_I_0 rfl (by decide) rfl rfl hk197 rfl fun v198 => ?_
                  refine TO.s rfl rfl rfl (StepS.assign rfl) ?_
                  refine TO.code ?_
                  refine TC.k ?_
                  refine TC.k ?_
                  refine TC.region ?_
                  refine TO.s rfl rfl rfl (StepS.move rfl) ?_
                  refine TO.s rfl rfl rfl (StepS.move rfl) ?_
                  obtain ⟨x200, hx201, hj167⟩ := bind_some hj167
                  refine TO.s rfl rfl rfl (StepS.idxRR rfl rfl (SS.rr (Ent.at 4 rfl)) ksliceB_51_37_1_true hx201) ?_
                  refine TO.s rfl rfl rfl (StepS.ldRR rfl (SS.rr (Ent.at 4 rfl)) kscalB_37_true hx201) ?_
                  refine TO.s rfl rfl rfl (StepS.lenm rfl (RR.row (SS.rr (Ent.at 4 rfl)) hx201) ksliceB_37_3_1_true rfl) ?_
                  refine TO.s rfl rfl rfl (StepS.move rfl) ?_
                  refine TO.code ?_
                  obtain ⟨o208, hw209, hj167⟩ := bind_some hj167
                  refine TC.loop hw209 (fun (y203, x204) => fun a w => Mid 280 B [(0, I a0), (1, h1), (4, .pointer (some ⟨b3, 0, none⟩)), (5, .pointer (some ⟨b4, 0, none⟩)), (6, v7), (7, v12), (13, I x127), (14, v146), (16, I x168), (20, v198), (162, (rowv hs37 x127.toNat)), (163, I (x143.length : Int)), (164, I x150), (200, (rowv hs35 x168.toNat)), (201, I (x200.length : Int)), (202, I x204)] (OwnS 3 1 v198 (y203.map cI) :: OwnS 44 2 v146 (y148.map (cZ44 zs)) :: SS 34 44 2 (cZ44 zs) v122 hs123 (y125) :: OwnS 27 1 v31 (y33.map cI) :: SS 37 3 1 cI v12 hs35 (y34) :: SS 37 3 1 cI v7 hs37 (y36) :: Bx b4 26 [v31, v122] :: Bx b3 26 [.slice none 0 0, .slice none 0 0] :: PZ 3 1 cI z0 zs y149 :: L) a w) (fun y207 => fun a w => Mid 280 B [(0, I a0), (1, h1), (4, .pointer (some ⟨b3, 0, none⟩)), (5, .pointer (some ⟨b4, 0, none⟩)), (6, v7), (7, v12), (13, I x127), (14, v146), (16, I x168), (20, v198), (162, (rowv hs37 x127.toNat)), (163, I (x143.length : Int)), (164, I x150)] (OwnS 3 1 v198 (y207.map cI) :: OwnS 44 2 v146 (y148.map (cZ44 zs)) :: SS 34 44 2 (cZ44 zs) v122 hs123 (y125) :: OwnS 27 1 v31 (y33.map cI) :: SS 37 3 1 cI v12 hs35 (y34) :: SS 37 3 1 cI v7 hs37 (y36) :: Bx b4 26 [v31, v122] :: Bx b3 26 [.slice none 0 0, .slice none 0 0] :: PZ 3 1 cI z0 zs y149 :: L) a w) (fun (_ : Unit) _ _ => False) ?_ ?_ ?_ ?_
                  · rintro ⟨y203, x204⟩ o208r hb210 a w ⟨he, hs⟩
                    dsimp only [F6_L5] at hb210
                    refine TC.use ?_ he hs
                    refine TC.k ?_
                    refine TC.region ?_
                    refine TO.s rfl rfl rfl (StepS.cmp rfl rfl rfl) ?_
                    refine TO.code ?_
                    refine TC.k ?_
                    refine TC.cond rfl (fun hc211 => ?_) (fun hc211 => ?_)
                    · replace hb210 := cond_t hc211 hb210
                      refine TC.skipk ?_
                      refine TC.k ?_
                      refine TC.block ?_
                      refine TC.k ?_
                      refine TC.region ?_
                      obtain ⟨x212, hx213, hb210⟩ := bind_some hb210
                      refine TO.s rfl rfl rfl (StepS.idx rfl rfl (RR.row (SS.rr (Ent.at 4 rfl)) hx201) ksliceB_37_3_1_true (idx_spec hx213).1 (idxm_lt hx213)) ?_
                      refine TO.s rfl rfl rfl (StepS.ld0 rfl (RR.row (SS.rr (Ent.at 4 rfl)) hx201) kscalB_3_true rfl (idxm hx213) rfl) ?_
                      refine TO.s rfl rfl rfl (StepS.assign rfl) ?_
                      refine TO.code ?_
                      refine TC.region_tail 16 kfollows_mixedOrders_true (by kernel_rfl) ?_
                      refine TS.s rfl rfl rfl (StepS.move rfl) ?_
                      refine TS.s rfl rfl rfl (StepS.move rfl) ?_
                      refine TS.s rfl rfl rfl (StepS.move rfl) ?_
                      obtain ⟨x214, hx215, hb210⟩ := bind_some hb210
                      refine TS.s rfl rfl rfl (StepS.idx rfl rfl e1.tl.tl.tl.tl.tl.tl.tl.tl.tl ksliceB_22_41_4_true (idx_spec hx215).1 (idxm_lt hx215)) ?_
                      refine TS.s rfl rfl rfl (StepS.ptrf rfl kfieldB_41_1_1_true) ?_
                      refine TS.s rfl rfl rfl (StepS.ld1 rfl e1.tl.tl.tl.tl.tl.tl.tl.tl.tl kscalB_3_true rfl (idxm hx215) rfl) ?_
                      refine TS.s rfl rfl rfl (StepS.move rfl) ?_
                      refine TS.s rfl rfl rfl (StepS.move rfl) ?_
                      refine TS.s rfl rfl rfl (StepS.move rfl) ?_
                      obtain ⟨x216, hx217, hb210⟩ := bind_some hb210
                      refine TS.s rfl rfl rfl (StepS.idx rfl rfl e1.tl.tl.tl.tl.tl.tl.tl.tl.tl ksliceB_22_41_4_true (idx_spec hx217).1 (idxm_lt hx217)) ?_
                      refine TS.s rfl rfl rfl (StepS.ptrf rfl kfieldB_41_1_1_true) ?_
                      refine TS.s rfl rfl rfl (StepS.ld1 rfl e1.tl.tl.tl.tl.tl.tl.tl.tl.tl kscalB_3_true rfl (idxm hx217) rfl) ?_
                      obtain ⟨x218, hx219, hb210⟩ := bind_some hb210
                      refine TS.s rfl rfl rfl (StepS.idx rfl rfl (OwnS.rd (Ent.at 0 rfl)) ksliceB_37_3_1_true (idx_spec hx219).1 (idxm_lt hx219)) ?_
                      refine TS.s rfl rfl rfl (StepS.ld0 rfl (OwnS.rd (Ent.at 0 rfl)) kscalB_3_true rfl (idxm hx219) rfl) ?_
                      refine TS.s rfl rfl rfl (StepS.ari rfl rfl rfl) ?_
                      obtain ⟨x220, hx221, hb210⟩ := bind_some hb210
                      refine TS.s rfl rfl rfl (StepS.idx rfl rfl (OwnS.rd (Ent.at 0 rfl)) ksliceB_37_3_1_true (idx_spec hx221).1 (idxm_lt hx221)) ?_
                      refine TS.nil ?_
                      refine TO.at ?_
                      refine TO.stO (i := x214.2.1.toNat) (off := 0) (us := [I (w64 (x218 + 1))]) 0 (w64 (x218 + 1)) rfl rfl rfl ksizeB_3_1_true rfl rfl rfl (idx_spec hx221).2 rfl (by simp [Value.oneCell']) rfl ?_
                      refine TO.code ?_
                      refine TC.region ?_
                      refine TO.s rfl rfl rfl (StepS.ari rfl rfl rfl) ?_
                      refine TO.s rfl rfl rfl (StepS.move rfl) ?_
                      cases hb210
                      refine TO.nil fun a w e s => ?_
                      exact ⟨e.sub (lk_of_allIn ⟨rfl, rfl, rfl, rfl, rfl, rfl, rfl, rfl, rfl, rfl, rfl, rfl, rfl, rfl, rfl, rfl, trivial⟩), s⟩
                    · replace hb210 := cond_f hc211 hb210
                      cases hb210
                      refine TC.exit rfl fun a w e s => ?_
                      exact ⟨e.sub (lk_of_allIn ⟨rfl, rfl, rfl, rfl, rfl, rfl, rfl, rfl, rfl, rfl, rfl, rfl, rfl, trivial⟩), s⟩
                  · exact fun a w e s => ⟨e.sub (lk_of_allIn ⟨rfl, rfl, rfl, rfl, rfl, rfl, rfl, rfl, rfl, rfl, rfl, rfl, rfl, rfl, rfl, rfl, trivial⟩), s⟩
                  · rintro y207 rfl a w ⟨he, hs⟩
                    dsimp only [Ctl.on] at hj167
                    refine TC.use ?_ he hs
                    refine TC.region ?_
                    refine TO.s rfl rfl rfl (StepS.move rfl) ?_
                    refine TO.s rfl rfl rfl (StepS.move rfl) ?_
                    refine TO.s rfl rfl rfl (StepS.move rfl) ?_
                    obtain ⟨x222, hx223, hj167⟩ := bind_some hj167
                    refine TO.s rfl rfl rfl (StepS.idx rfl rfl e1.tl.tl.tl.tl.tl.tl.tl.tl.tl ksliceB_22_41_4_true (idx_spec hx223).1 (idxm_lt hx223)) ?_
                    refine TO.s rfl rfl rfl (StepS.ptrf rfl kfieldB_41_3_3_true) ?_
                    refine TO.s rfl rfl rfl (StepS.ld1 rfl e1.tl.tl.tl.tl.tl.tl.tl.tl.tl kscalB_3_true rfl (idxm hx223) rfl) ?_
                    refine TO.s rfl rfl rfl (StepS.move rfl) ?_
                    obtain ⟨_, hk224, hj167⟩ := bind_some hj167
                    obtain ⟨_, hk225, hj167⟩ := bind_some hj167
                    refine TO.pure (φ := zs.length = (y149).length) (fun _ s => (PZ.pure (Ent.at 8 rfl) s).1) fun hz226 => ?_
                    refine TO.pure (φ := ∃ q, v198 = sv q) (fun _ s => OwnS.isS (Ent.at 0 rfl) s) fun hq227 => ?_
                    obtain ⟨hq227, rfl⟩ := hq227
                    rw [show y148.map (cZ44 zs) = y148.map (cZ44 (zs ++ [hq227])) from zext hz226 hk224 (fun _ _ _ e => by simp only [cZ44, e])]
                    rw [show SS 34 44 2 (cZ44 zs) v122 hs123 (y125) = SS 34 44 2 (cZ44 (zs ++ [hq227])) v122 hs123 (y125) from SS.zext hz226 hk225 (fun _ _ _ e => by simp only [cZ44, e])]
                    refine TO.ghost (fun _ s => Sat.front 8 rfl s) ?_
                    refine TO.ghost (fun _ s => Sat.front 1 rfl s) ?_
                    refine TO.ghost (fun _ s => Sat.freezeZ s) ?_
                    try rw [zv_new (h := hq227) hz226]
                    generalize zs ++ [hq227] = zs
                    refine TO.s rfl rfl rfl (StepS.build (cs := [I x222.2.2.2, zv zs ((y149).length)]) rfl (by kernel_rfl)) ?_
                    refine TO.litS (f := (cZ44 zs)) ([(x222.2.2.2, (y149).length)] : List (Int × Nat)) kelemB_34_44_2_32_true kinfo_44_bind_zero_some_agg_I_0_slice_none_0_0 rfl rfl (fun _ => rfl) rfl rfl (by kernel_rfl) rfl fun v228 => ?_
                    obtain ⟨y230, hk231, hj167⟩ := bind_some hj167
                    refine TO.app (k := 2) (f := (cZ44 zs)) kelemB_34_44_2_32_true (by decide) rfl rfl rfl (OwnS.rd (Ent.at 0 rfl)) hk231 (fun x c hc => by simp [Value.oneCell'] at hc ⊢; first | (obtain rfl := hc; rfl) | (rcases hc with rfl | rfl <;> rfl)) rfl rfl fun v232 => ?_
                    refine TO.s rfl rfl rfl (StepS.assign rfl) ?_
                    cases hj167
                    refine TO.nil fun a w e s => ?_
                    exact ⟨v232, zs, e.sub (lk_of_allIn ⟨rfl, rfl, rfl, rfl, rfl, rfl, rfl, rfl, rfl, rfl, rfl, trivial⟩), s.mono fun _ s => (by exact Sat.by [1, 8, 8, 8, 8, 8, 8, 8] 8 1 (by kernel_rfl) s)⟩
                  · rintro r rfl
                    exact fun a w h => h.elim
              · rintro r rfl
                exact fun a w h => h.elim
            · intro a w ⟨v165, zs, he, hs⟩
              refine TC.use ?_ he hs
              refine TC.region ?_
              refine TO.s rfl rfl rfl (StepS.ari rfl rfl rfl) ?_
              refine TO.s rfl rfl rfl (StepS.move rfl) ?_
              cases hb162
              refine TO.nil fun a w e s => ?_
              exact ⟨v165, zs, e.sub (lk_of_allIn ⟨rfl, rfl, rfl, rfl, rfl, rfl, rfl, rfl, rfl, rfl, rfl, trivial⟩), s⟩
          · replace hb162 := cond_f hc163 hb162
            cases hb162
            refine TC.exit rfl fun a w e s => ?_
            exact ⟨v146, zs, e.sub (lk_of_allIn ⟨rfl, rfl, rfl, rfl, rfl, rfl, rfl, rfl, trivial⟩), s⟩
        · exact fun a w e s => ⟨.slice none 0 0, zs, e.sub (lk_of_allIn ⟨rfl, rfl, rfl, rfl, rfl, rfl, rfl, rfl, rfl, rfl, rfl, trivial⟩), s.mono fun _ s => (by replace s := Sat.nilS (e := 44) (sz := 2) (f := (cZ44 zs)) s; exact Sat.by [7, 7, 7, 7, 7, 7, 7, 7] 8 0 (by kernel_rfl) s)⟩
        · rintro ⟨y158, y159⟩ rfl a w ⟨v156, zs, he, hs⟩
          dsimp only [Ctl.on] at hb141
          refine TC.use ?_ he hs
          refine TC.k ?_
          refine TC.k ?_
          refine TC.region ?_
          refine TO.s rfl rfl rfl (StepS.assign rfl) ?_
          refine TO.code ?_
          obtain ⟨o238, hw239, hb141⟩ := bind_some hb141
          refine TC.loop hw239 (fun (y233, x234) => fun a w => Mid 280 B [(0, I a0), (1, h1), (4, .pointer (some ⟨b3, 0, none⟩)), (5, .pointer (some ⟨b4, 0, none⟩)), (6, v7), (7, v12), (13, I x127), (14, v156), (23, I x234)] (OwnS 44 2 v156 (y233.map (cZ44 zs)) :: SS 34 44 2 (cZ44 zs) v122 hs123 (y125) :: OwnS 27 1 v31 (y33.map cI) :: SS 37 3 1 cI v12 hs35 (y34) :: SS 37 3 1 cI v7 hs37 (y36) :: Bx b4 26 [v31, v122] :: Bx b3 26 [.slice none 0 0, .slice none 0 0] :: PZ 3 1 cI z0 zs y159 :: L) a w) (fun y237 => fun a w => Mid 280 B [(0, I a0), (1, h1), (4, .pointer (some ⟨b3, 0, none⟩)), (5, .pointer (some ⟨b4, 0, none⟩)), (6, v7), (7, v12), (13, I x127), (14, v156)] (OwnS 44 2 v156 (y237.map (cZ44 zs)) :: SS 34 44 2 (cZ44 zs) v122 hs123 (y125) :: OwnS 27 1 v31 (y33.map cI) :: SS 37 3 1 cI v12 hs35 (y34) :: SS 37 3 1 cI v7 hs37 (y36) :: Bx b4 26 [v31, v122] :: Bx b3 26 [.slice none 0 0, .slice none 0 0] :: PZ 3 1 cI z0 zs y159 :: L) a w) (fun (_ : Unit) _ _ => False) ?_ ?_ ?_ ?_
          · rintro ⟨y233, x234⟩ o238r hb240 a w ⟨he, hs⟩
            dsimp only [F6_L6] at hb240
            refine TC.use ?_ he hs
            refine TC.k ?_
            refine TC.k ?_
            refine TC.region ?_
            refine TO.s rfl rfl rfl (StepS.move rfl) ?_
            refine TO.s rfl rfl rfl (StepS.move rfl) ?_
            refine TO.s rfl rfl rfl (StepS.lenm rfl (OwnS.rd (Ent.at 0 rfl)) ksliceB_34_44_2_true rfl) ?_
            refine TO.s rfl rfl rfl (StepS.cmp rfl rfl rfl) ?_
            refine TO.code ?_
            refine TC.cond rfl (fun hc241 => ?_) (fun hc241 => ?_)
            · replace hb240 := cond_t hc241 hb240
              refine TC.skipk ?_
              refine TC.k ?_
              refine TC.block ?_
              refine TC.k ?_
              refine TC.region ?_
              refine TO.s rfl rfl rfl (StepS.move rfl) ?_
              refine TO.s rfl rfl rfl (StepS.assign rfl) ?_
              refine TO.code ?_
              obtain ⟨o247, hw248, hb240⟩ := bind_some hb240
              refine TC.loop hw248 (fun (y242, x243) => fun a w => Mid 280 B [(0, I a0), (1, h1), (4, .pointer (some ⟨b3, 0, none⟩)), (5, .pointer (some ⟨b4, 0, none⟩)), (6, v7), (7, v12), (13, I x127), (14, v156), (23, I x234), (24, I x243)] (OwnS 44 2 v156 (y242.map (cZ44 zs)) :: SS 34 44 2 (cZ44 zs) v122 hs123 (y125) :: OwnS 27 1 v31 (y33.map cI) :: SS 37 3 1 cI v12 hs35 (y34) :: SS 37 3 1 cI v7 hs37 (y36) :: Bx b4 26 [v31, v122] :: Bx b3 26 [.slice none 0 0, .slice none 0 0] :: PZ 3 1 cI z0 zs y159 :: L) a w) (fun y246 => fun a w => Mid 280 B [(0, I a0), (1, h1), (4, .pointer (some ⟨b3, 0, none⟩)), (5, .pointer (some ⟨b4, 0, none⟩)), (6, v7), (7, v12), (13, I x127), (14, v156), (23, I x234)] (OwnS 44 2 v156 (y246.map (cZ44 zs)) :: SS 34 44 2 (cZ44 zs) v122 hs123 (y125) :: OwnS 27 1 v31 (y33.map cI) :: SS 37 3 1 cI v12 hs35 (y34) :: SS 37 3 1 cI v7 hs37 (y36) :: Bx b4 26 [v31, v122] :: Bx b3 26 [.slice none 0 0, .slice none 0 0] :: PZ 3 1 cI z0 zs y159 :: L) a w) (fun (_ : Unit) _ _ => False) ?_ ?_ ?_ ?_
              · rintro ⟨y242, x243⟩ o247r hb249 a w ⟨he, hs⟩
                dsimp only [F6_L7] at hb249
                refine TC.use ?_ he hs
                refine TC.k ?_
                refine TC.k ?_
                refine TC.region_quiet kfollows_mixedOrders_true (by kernel_rfl) ?_
                refine TQ.s rfl rfl rfl (StepS.move rfl).q ?_
                refine TQ.s rfl rfl rfl (StepS.cmp rfl rfl rfl).q ?_
                refine TQ.s rfl rfl rfl (StepS.move rfl).q ?_
                obtain ⟨b251, hj252, hb249⟩ := bind_some hb249
                refine TQ.mid1 11 254 (.bool b251) ?_ ?_
                · refine bcase ((decide (x243 > 0))) (fun hb250 => ?_) (fun hb250 => ?_)
                  · replace hj252 := cond_t hb250 hj252
                    refine TQ.sw rfl rfl rfl hb250 rfl rfl (StepS.move rfl).q ?_
                    refine TQ.sw rfl rfl rfl hb250 rfl rfl (StepS.move rfl).q ?_
                    obtain ⟨x253, hx254, hj252⟩ := bind_some hj252
                    refine TQ.sw rfl rfl rfl hb250 rfl rfl (StepS.idx rfl rfl (OwnS.rd (Ent.at 0 rfl)) ksliceB_34_44_2_true (idx_spec hx254).1 (idxm_lt hx254)).q ?_
                    refine TQ.sw rfl rfl rfl hb250 rfl rfl (StepS.ldE rfl (OwnS.rd (Ent.at 0 rfl)) kaggB_44_2_true rfl (idxm hx254)).q ?_
                    refine TQ.sw rfl rfl rfl hb250 rfl rfl (StepS.move rfl).q ?_
                    refine TQ.sw rfl rfl rfl hb250 rfl rfl (StepS.move rfl).q ?_
                    refine TQ.sw rfl rfl rfl hb250 rfl rfl (StepS.ari rfl rfl rfl).q ?_
                    obtain ⟨x255, hx256, hj252⟩ := bind_some hj252
                    refine TQ.sw rfl rfl rfl hb250 rfl rfl (StepS.idx rfl rfl (OwnS.rd (Ent.at 0 rfl)) ksliceB_34_44_2_true (idx_spec hx256).1 (idxm_lt hx256)).q ?_
                    refine TQ.sw rfl rfl rfl hb250 rfl rfl (StepS.ldE rfl (OwnS.rd (Ent.at 0 rfl)) kaggB_44_2_true rfl (idxm hx256)).q ?_
                    obtain ⟨r257, hc258, hj252⟩ := bind_some hj252
                    refine TQ.sw rfl rfl rfl hb250 rfl rfl (StepQ.call kcallB_17_true rfl rfl (fun _ st => C17 (zs := zs) (Ent.at 7 rfl) hc258 st)) ?_
                    cases hj252
                    refine TQ.s rfl rfl rfl (StepS.pickT rfl hb250 rfl).q ?_
                    exact TQ.up1 11 0 rfl rfl rfl rfl
                  · replace hj252 := cond_f hb250 hj252
                    cases hj252
                    refine TQ.skip rfl rfl rfl (skipF hb250) rfl rfl ?_
                    refine TQ.skip rfl rfl rfl (skipF hb250) rfl rfl ?_
                    refine TQ.skip rfl rfl rfl (skipF hb250) rfl rfl ?_
                    refine TQ.skip rfl rfl rfl (skipF hb250) rfl rfl ?_
                    refine TQ.skip rfl rfl rfl (skipF hb250) rfl rfl ?_
                    refine TQ.skip rfl rfl rfl (skipF hb250) rfl rfl ?_
                    refine TQ.skip rfl rfl rfl (skipF hb250) rfl rfl ?_
                    refine TQ.skip rfl rfl rfl (skipF hb250) rfl rfl ?_
                    refine TQ.skip rfl rfl rfl (skipF hb250) rfl rfl ?_
                    refine TQ.skip rfl rfl rfl (skipF hb250) rfl rfl ?_
                    refine TQ.s rfl rfl rfl (StepS.pickF rfl hb250 rfl).q ?_
                    exact TQ.up1 11 0 rfl rfl rfl rfl
                refine TQ.code ?_
                refine TC.cond rfl (fun hc259 => ?_) (fun hc259 => ?_)
                · replace hb249 := cond_t hc259 hb249
                  refine TC.skipk ?_
                  refine TC.k ?_
                  refine TC.block ?_
                  refine TC.region_any (OwnS 44 2 v156 (y242.map (cZ44 zs)) :: SS 34 44 2 (cZ44 zs) v122 hs123 (y125) :: OwnS 27 1 v31 (y33.map cI) :: SS 37 3 1 cI v12 hs35 (y34) :: SS 37 3 1 cI v7 hs37 (y36) :: Bx b4 26 [v31, v122] :: Bx b3 26 [.slice none 0 0, .slice none 0 0] :: PZ 3 1 cI z0 zs y159 :: L) 15 18 kfollows_mixedOrders_true rfl ?_
                  refine TA.takeW 0 rfl rfl rfl rfl (StepS.move rfl) (by kernel_rfl) (by kernel_rfl) (by kernel_rfl) rfl (.inr (fun _ s => s)) ?_
                  refine TA.takeW 1 rfl rfl rfl rfl (StepS.move rfl) (by kernel_rfl) (by kernel_rfl) (by kernel_rfl) rfl (.inr (fun _ s => s)) ?_
                  refine TA.takeW 2 rfl rfl rfl rfl (StepS.move rfl) (by kernel_rfl) (by kernel_rfl) (by kernel_rfl) rfl (.inr (fun _ s => s)) ?_
                  refine TA.takeW 3 rfl rfl rfl rfl (StepS.move rfl) (by kernel_rfl) (by kernel_rfl) (by kernel_rfl) rfl (.inr (fun _ s => s)) ?_
                  refine TA.takeW 4 rfl rfl rfl rfl (StepS.ari rfl rfl rfl) (by kernel_rfl) (by kernel_rfl) (by kernel_rfl) rfl (.inr (fun _ s => s)) ?_
                  refine TA.takeW 5 rfl rfl rfl rfl (StepS.move rfl) (by kernel_rfl) (by kernel_rfl) (by kernel_rfl) rfl (.inr (fun _ s => s)) ?_
                  refine TA.takeW 6 rfl rfl rfl rfl (StepS.move rfl) (by kernel_rfl) (by kernel_rfl) (by kernel_rfl) rfl (.inr (fun _ s => s)) ?_
                  refine TA.takeW 7 rfl rfl rfl rfl (StepS.ari rfl rfl rfl) (by kernel_rfl) (by kernel_rfl) (by kernel_rfl) rfl (.inr (fun _ s => s)) ?_
                  obtain ⟨xq260_8_1, hxq260_8_2, hb249⟩ := bind_some hb249
                  refine TA.take 8 rfl rfl rfl rfl (StepS.idx rfl rfl (OwnS.rd (Ent.at 0 rfl)) ksliceB_34_44_2_true (idx_spec hxq260_8_2).1 (idxm_lt hxq260_8_2)) (by kernel_rfl) (by kernel_rfl) (by kernel_rfl) (by kernel_rfl) (by kernel_rfl) (fun _ s => s) ?_
                  refine TA.take 9 rfl rfl rfl rfl (StepS.ldE rfl (OwnS.rd (Ent.at 0 rfl)) kaggB_44_2_true rfl (idxm hxq260_8_2)) (by kernel_rfl) (by kernel_rfl) (by kernel_rfl) (by kernel_rfl) (by kernel_rfl) (fun _ s => s) ?_
                  refine TA.takeW 10 rfl rfl rfl rfl (StepS.move rfl) (by kernel_rfl) (by kernel_rfl) (by kernel_rfl) rfl (.inr (fun _ s => s)) ?_
                  refine TA.takeW 11 rfl rfl rfl rfl (StepS.move rfl) (by kernel_rfl) (by kernel_rfl) (by kernel_rfl) rfl (.inr (fun _ s => s)) ?_
                  refine TA.all1 (i := 12) (by kernel_rfl) ?_
                  refine TB.of rfl ?_
                  obtain ⟨xq260_12_1, hxq260_12_2, hb249⟩ := bind_some hb249
                  refine TO.s rfl rfl rfl (StepS.idx rfl rfl (OwnS.rd (Ent.at 0 rfl)) ksliceB_34_44_2_true (idx_spec hxq260_12_2).1 (idxm_lt hxq260_12_2)) ?_
                  refine TA.back (.inr (fun _ s => s)) ?_
                  refine TA.asL (L' := (OwnS 44 2 v156 (y242.map (cZ44 zs)) :: SS 34 44 2 (cZ44 zs) v122 hs123 (y125) :: OwnS 27 1 v31 (y33.map cI) :: SS 37 3 1 cI v12 hs35 (y34) :: SS 37 3 1 cI v7 hs37 (y36) :: Bx b4 26 [v31, v122] :: Bx b3 26 [.slice none 0 0, .slice none 0 0] :: PZ 3 1 cI z0 zs y159 :: L)) (listed' := #[true, true, true, true, true, true, true, true, true, true, true, true, true, false, false, false, false, false]) (by kernel_rfl) (by kernel_rfl) ?_
                  refine TA.take 13 rfl rfl rfl rfl (StepS.ldE rfl (OwnS.rd (Ent.at 0 rfl)) kaggB_44_2_true rfl (idxm hxq260_12_2)) (by kernel_rfl) (by kernel_rfl) (by kernel_rfl) (by kernel_rfl) (by kernel_rfl) (fun _ s => s) ?_
                  obtain ⟨xq260_14_1, hxq260_14_2, hb249⟩ := bind_some hb249
                  refine TA.take 14 rfl rfl rfl rfl (StepS.idx rfl rfl (OwnS.rd (Ent.at 0 rfl)) ksliceB_34_44_2_true (idx_spec hxq260_14_2).1 (idxm_lt hxq260_14_2)) (by kernel_rfl) (by kernel_rfl) (by kernel_rfl) (by kernel_rfl) (by kernel_rfl) (fun _ s => s) ?_
                  refine TA.all1 (i := 15) (by kernel_rfl) ?_
                  refine TB.of rfl ?_
                  refine TO.stO (i := x243.toNat) (off := 0) (us := [I xq260_8_1.1, zv zs xq260_8_1.2]) 0 xq260_8_1 rfl rfl rfl ksizeB_44_2_true rfl rfl rfl (idx_spec hxq260_14_2).2 rfl (by simp [Value.oneCell']) rfl ?_
                  refine TA.back (.inl (by kernel_rfl)) ?_
                  refine TA.asL (L' := (OwnS 44 2 v156 ((y242.set x243.toNat xq260_8_1).map (cZ44 zs)) :: SS 34 44 2 (cZ44 zs) v122 hs123 (y125) :: OwnS 27 1 v31 (y33.map cI) :: SS 37 3 1 cI v12 hs35 (y34) :: SS 37 3 1 cI v7 hs37 (y36) :: Bx b4 26 [v31, v122] :: Bx b3 26 [.slice none 0 0, .slice none 0 0] :: PZ 3 1 cI z0 zs y159 :: L)) (listed' := #[true, true, true, true, true, true, true, true, true, true, true, true, true, true, true, true, false, false]) (by kernel_rfl) (by kernel_rfl) ?_
                  refine TA.all1 (i := 16) (by kernel_rfl) ?_
                  refine TB.of rfl ?_
                  obtain ⟨xq260_16_1, hxq260_16_2, hb249⟩ := bind_some hb249
                  refine TO.s rfl rfl rfl (StepS.idx rfl rfl (OwnS.rd (Ent.at 0 rfl)) ksliceB_34_44_2_true (idx_spec hxq260_16_2).1 (idxm_lt hxq260_16_2)) ?_
                  refine TA.back (.inl (by kernel_rfl)) ?_
                  refine TA.asL (L' := (OwnS 44 2 v156 ((y242.set x243.toNat xq260_8_1).map (cZ44 zs)) :: SS 34 44 2 (cZ44 zs) v122 hs123 (y125) :: OwnS 27 1 v31 (y33.map cI) :: SS 37 3 1 cI v12 hs35 (y34) :: SS 37 3 1 cI v7 hs37 (y36) :: Bx b4 26 [v31, v122] :: Bx b3 26 [.slice none 0 0, .slice none 0 0] :: PZ 3 1 cI z0 zs y159 :: L)) (listed' := #[true, true, true, true, true, true, true, true, true, true, true, true, true, true, true, true, true, false]) (by kernel_rfl) (by kernel_rfl) ?_
                  refine TA.all1 (i := 17) (by kernel_rfl) ?_
                  refine TB.of rfl ?_
                  refine TO.stO (i := (w64 (x243 - 1)).toNat) (off := 0) (us := [I xq260_12_1.1, zv zs xq260_12_1.2]) 0 xq260_12_1 rfl rfl rfl ksizeB_44_2_true rfl rfl rfl (idx_spec hxq260_16_2).2 rfl (by simp [Value.oneCell']) rfl ?_
                  refine TA.back (.inl (by kernel_rfl)) ?_
                  refine TA.asL (L' := (OwnS 44 2 v156 (((y242.set x243.toNat xq260_8_1).set (w64 (x243 - 1)).toNat xq260_12_1).map (cZ44 zs)) :: SS 34 44 2 (cZ44 zs) v122 hs123 (y125) :: OwnS 27 1 v31 (y33.map cI) :: SS 37 3 1 cI v12 hs35 (y34) :: SS 37 3 1 cI v7 hs37 (y36) :: Bx b4 26 [v31, v122] :: Bx b3 26 [.slice none 0 0, .slice none 0 0] :: PZ 3 1 cI z0 zs y159 :: L)) (listed' := #[true, true, true, true, true, true, true, true, true, true, true, true, true, true, true, true, true, true]) (by kernel_rfl) (by kernel_rfl) ?_
                  refine TA.code (by kernel_rfl) ?_
                  refine TC.region ?_
                  refine TO.s rfl rfl rfl (StepS.move rfl) ?_
                  refine TO.s rfl rfl rfl (StepS.ari rfl rfl rfl) ?_
                  refine TO.s rfl rfl rfl (StepS.assign rfl) ?_
                  cases hb249
                  refine TO.nil fun a w e s => ?_
                  exact ⟨e.sub (lk_of_allIn ⟨rfl, rfl, rfl, rfl, rfl, rfl, rfl, rfl, rfl, rfl, trivial⟩), s⟩
                · replace hb249 := cond_f hc259 hb249
                  cases hb249
                  refine TC.exit rfl fun a w e s => ?_
                  exact ⟨e.sub (lk_of_allIn ⟨rfl, rfl, rfl, rfl, rfl, rfl, rfl, rfl, rfl, trivial⟩), s⟩
              · exact fun a w e s => ⟨e.sub (lk_of_allIn ⟨rfl, rfl, rfl, rfl, rfl, rfl, rfl, rfl, rfl, rfl, trivial⟩), s⟩
              · rintro y246 rfl a w ⟨he, hs⟩
                dsimp only [Ctl.on] at hb240
                refine TC.use ?_ he hs
                refine TC.region ?_
                refine TO.s rfl rfl rfl (StepS.move rfl) ?_
                refine TO.s rfl rfl rfl (StepS.ari rfl rfl rfl) ?_
                refine TO.s rfl rfl rfl (StepS.assign rfl) ?_
                cases hb240
                refine TO.nil fun a w e s => ?_
                exact ⟨e.sub (lk_of_allIn ⟨rfl, rfl, rfl, rfl, rfl, rfl, rfl, rfl, rfl, trivial⟩), s⟩
              · rintro r rfl
                exact fun a w h => h.elim
            · replace hb240 := cond_f hc241 hb240
              cases hb240
              refine TC.exit rfl fun a w e s => ?_
              exact ⟨e.sub (lk_of_allIn ⟨rfl, rfl, rfl, rfl, rfl, rfl, rfl, rfl, trivial⟩), s⟩
          · exact fun a w e s => ⟨e.sub (lk_of_allIn ⟨rfl, rfl, rfl, rfl, rfl, rfl, rfl, rfl, rfl, trivial⟩), s⟩
          · rintro y237 rfl a w ⟨he, hs⟩
            dsimp only [Ctl.on] at hb141
            refine TC.use ?_ he hs
            refine TC.region ?_
            refine TO.s rfl rfl rfl (StepS.fld rfl kfieldB_26_1_1_true) ?_
            refine TO.s rfl rfl rfl (StepS.ldB rfl (Ent.at 5 rfl) kscalB_24_true rfl) ?_
            refine TO.s rfl rfl rfl (StepS.move rfl) ?_
            refine TO.lit1H rfl (OwnS.rd (Ent.at 0 rfl)) kelemB_24_34_1_24_true rfl fun v261 => ?_
            refine TO.ghost (fun _ s => Sat.front 2 rfl s) ?_
            refine TO.ghost (fun _ s => Sat.front 2 rfl s) ?_
            obtain ⟨y264, hk265, hb141⟩ := bind_some hb141
            refine TO.appSS (row := y237) rfl kelemB_24_34_1_24_true rfl rfl (OwnS.rd (Ent.at 0 rfl)) hk265 rfl rfl fun v266 hs267 => ?_
            refine TO.ghost (fun _ s => Sat.erase 1 s) ?_
            refine TO.s rfl rfl rfl (StepS.fld rfl kfieldB_26_1_1_true) ?_
            refine TO.pure (fun _ s => Rd.one (RR.top (SS.rr (Ent.at 0 rfl))) s) fun oc268 => ?_
            refine TO.stB (us := [v266]) 4 [v31, v266] rfl rfl rfl ksizeB_24_1_true oc268.2 rfl rfl (by intro u hu; simp only [List.mem_cons, List.not_mem_nil, or_false] at hu; rcases hu with rfl <;> first | exact oc268.1 | rfl) rfl ?_
            refine TO.code ?_
            refine TC.region ?_
            refine TO.s rfl rfl rfl (StepS.move rfl) ?_
            refine TO.s rfl rfl rfl (StepS.ari rfl rfl rfl) ?_
            refine TO.s rfl rfl rfl (StepS.assign rfl) ?_
            cases hb141
            refine TO.nil fun a w e s => ?_
            exact ⟨v266, hs267, zs, e.sub (lk_of_allIn ⟨rfl, rfl, rfl, rfl, rfl, rfl, rfl, trivial⟩), s⟩
          · rintro r rfl
            exact fun a w h => h.elim
        · rintro r rfl
          exact fun a w h => h.elim
      · replace hb141 := cond_f hc142 hb141
        cases hb141
        refine TC.exit rfl fun a w e s => ?_
        exact ⟨v122, hs123, zs, e.sub (lk_of_allIn ⟨rfl, rfl, trivial⟩), s⟩
    · exact fun a w e s => ⟨.slice none 0 0, [], zs, e.sub (lk_of_allIn ⟨rfl, rfl, rfl, rfl, rfl, rfl, rfl, trivial⟩), s.mono fun _ s => (by replace s := Sat.nilSS (e := 34) (ee := 44) (sz := 2) (f := (cZ44 zs)) s; exact Sat.by [6, 6, 6, 6, 6, 6, 6] 7 0 (by kernel_rfl) s)⟩
    · rintro ⟨y137, y138⟩ rfl a w ⟨v134, hs135, zs, he, hs⟩
      dsimp only [Ctl.on] at hm
      refine TC.use ?_ he hs
      refine TC.k ?_
      refine TC.region ?_
      refine TO.s rfl rfl rfl (StepS.ldBA rfl (Ent.at 4 rfl) kaggB_26_2_true rfl rfl) ?_
      refine TO.pure (fun _ s => Rd.one (OwnS.rd (Ent.at 1 rfl)) s) fun oc269 => ?_
      refine TO.pure (fun _ s => Rd.one (RR.top (SS.rr (Ent.at 0 rfl))) s) fun oc270 => ?_
      refine TO.stB (us := [v31, v134]) 5 [v31, v134] rfl rfl rfl ksizeB_26_2_true rfl rfl rfl (by intro u hu; simp only [List.mem_cons, List.not_mem_nil, or_false] at hu; rcases hu with rfl | rfl <;> first | exact oc269.1 | exact oc270.1 | rfl) rfl ?_
      refine TO.code ?_
      cases hm
      refine TC.ret fun a w e s => ?_
      refine FRet.cell1 (P := Try.prog) (fn := Try.f6) e s rfl rfl (Ent.at 5 rfl) kaggB_26_2_true rfl ?_
      refine ⟨_, _, rfl, ⟨zs, (v31), (v134), (hs135), rfl, rfl⟩, ?_⟩
      refine s.mono fun _ s => ?_
      replace s := Sat.front 0 rfl s
      replace s := Sat.front 1 rfl s
      replace s := Sat.front 6 rfl s
      replace s := Sat.erase 3 s
      replace s := Sat.erase 3 s
      replace s := Sat.erase 3 s
      replace s := Sat.erase 3 s
      exact s
    · rintro r rfl
      exact fun a w h => h.elim
  · rintro r rfl
    exact fun a w h => h.elim
end Go.Proofs.Ytgofkfhkolkfmaa
