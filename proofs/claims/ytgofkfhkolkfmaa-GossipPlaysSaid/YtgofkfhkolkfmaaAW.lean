/-
  The walks: each Go function returns what its model says. Written by a program (gen.py).
-/
import Derived.Test.YtgofkfhkolkfmaaProg
import Derived.KernelRfl
import Derived.Test.YtgofkfhkolkfmaaAM
namespace Go.Proofs.Ytgofkfhkolkfmaa
open Go Go.Bk
set_option linter.unusedVariables false
set_option linter.unnecessarySimpa false
theorem ksliceB_23_27_1_true : sliceB Try.prog 23 27 1 = true := by kernel_rfl
theorem kfollows_mixedOrders_true : Try.prog.follows .mixedOrders = true := by kernel_rfl
theorem kscalB_27_true : scalB Try.prog 27 = true := by kernel_rfl
theorem ksliceB_37_3_1_true : sliceB Try.prog 37 3 1 = true := by kernel_rfl
theorem kscalB_3_true : scalB Try.prog 3 = true := by kernel_rfl
theorem ksliceB_34_44_2_true : sliceB Try.prog 34 44 2 = true := by kernel_rfl
theorem kfieldB_44_0_0_true : fieldB Try.prog 44 0 0 = true := by kernel_rfl
theorem kfieldB_44_1_1_true : fieldB Try.prog 44 1 1 = true := by kernel_rfl
theorem kscalB_37_true : scalB Try.prog 37 = true := by kernel_rfl
theorem kcallB_18_true : callB Try.prog 18 = true := by kernel_rfl
theorem kelemB_37_3_1_8_true : elemB Try.prog 37 3 1 8 = true := by kernel_rfl
theorem kcallB_24_true : callB Try.prog 24 = true := by kernel_rfl
theorem kcallB_14_true : callB Try.prog 14 = true := by kernel_rfl
theorem kcallB_15_true : callB Try.prog 15 = true := by kernel_rfl
theorem kinfo_3_bind_zero_some_I_0 : (Try.prog.info? 3).bind (·.zero) = some (I 0) := by kernel_rfl
theorem kcallB_13_true : callB Try.prog 13 = true := by kernel_rfl
theorem kscalB_36_true : scalB Try.prog 36 = true := by kernel_rfl
theorem kfieldB_39_0_0_true : fieldB Try.prog 39 0 0 = true := by kernel_rfl
theorem kscalB_24_true : scalB Try.prog 24 = true := by kernel_rfl
theorem ksliceB_24_34_1_true : sliceB Try.prog 24 34 1 = true := by kernel_rfl
theorem kscalB_34_true : scalB Try.prog 34 = true := by kernel_rfl
theorem kaggB_44_2_true : aggB Try.prog 44 2 = true := by kernel_rfl
theorem kinfo_44_bind_zero_some_agg_I_0_slice_none_0_0 : (Try.prog.info? 44).bind (·.zero) = some (.agg #[I 0, .slice none 0 0]) := by kernel_rfl
theorem ksizeB_44_2_true : sizeB Try.prog 44 2 = true := by kernel_rfl
theorem ksizeB_3_1_true : sizeB Try.prog 3 1 = true := by kernel_rfl
theorem kfieldB_39_1_1_true : fieldB Try.prog 39 1 1 = true := by kernel_rfl
theorem kelemB_34_44_2_32_true : elemB Try.prog 34 44 2 32 = true := by kernel_rfl
theorem ksizeB_34_1_true : sizeB Try.prog 34 1 = true := by kernel_rfl

set_option maxRecDepth 100000 in
theorem C5 {B : World} {L : List HP} {a0 : Int} {a1 : Int} {r0 : Int} (hm : F5 a0 a1 = some r0) {w : World} (st : St B L w) : Calls Try.prog 5 #[I a0, I a1] w (fun e w' => (e = .returned (I r0) ∧ St B (L) w')) := by
  refine calls_of (N := 15) (L := L) (args := [I a0, I a1]) Try.func5 rfl rfl rfl ?_ st
  dsimp only [F5] at hm
  refine TC.k ?_
  refine TC.region ?_
  refine TO.s rfl rfl rfl (StepS.assign rfl) ?_
  refine TO.code ?_
  refine TC.k ?_
  refine TC.k ?_
  refine TC.region ?_
  refine TO.s rfl rfl rfl (StepS.move rfl) ?_
  refine TO.s rfl rfl rfl (StepS.cmp rfl rfl rfl) ?_
  refine TO.s rfl rfl rfl (StepS.move rfl) ?_
  refine TO.mid1 3 10 (.bool ((decide (a0 < 1)) || (decide (a0 > 6)))) ?_ ?_
  · refine bcase ((decide (a0 < 1))) (fun hb1 => ?_) (fun hb1 => ?_)
    · refine TO.skip rfl rfl rfl (skipT hb1) rfl rfl ?_
      refine TO.skip rfl rfl rfl (skipT hb1) rfl rfl ?_
      refine TO.s rfl rfl rfl (StepS.pickT rfl hb1 rfl) ?_
      exact TO.up1 3 0 rfl rfl (by rw [hb1]; rfl) rfl
    · refine TO.sw rfl rfl rfl hb1 rfl rfl (StepS.move rfl) ?_
      refine TO.sw rfl rfl rfl hb1 rfl rfl (StepS.cmp rfl rfl rfl) ?_
      refine TO.s rfl rfl rfl (StepS.pickF rfl hb1 rfl) ?_
      exact TO.up1 3 0 rfl rfl (by rw [hb1]; rfl) rfl
  refine TO.s rfl rfl rfl (StepS.move rfl) ?_
  refine TO.mid1 3 14 (.bool (((decide (a0 < 1)) || (decide (a0 > 6))) || (decide (a1 > 60)))) ?_ ?_
  · refine bcase (((decide (a0 < 1)) || (decide (a0 > 6)))) (fun hb2 => ?_) (fun hb2 => ?_)
    · refine TO.skip rfl rfl rfl (skipT hb2) rfl rfl ?_
      refine TO.skip rfl rfl rfl (skipT hb2) rfl rfl ?_
      refine TO.s rfl rfl rfl (StepS.pickT rfl hb2 rfl) ?_
      exact TO.up1 3 0 rfl rfl (by rw [hb2]; rfl) rfl
    · refine TO.sw rfl rfl rfl hb2 rfl rfl (StepS.move rfl) ?_
      refine TO.sw rfl rfl rfl hb2 rfl rfl (StepS.cmp rfl rfl rfl) ?_
      refine TO.s rfl rfl rfl (StepS.pickF rfl hb2 rfl) ?_
      exact TO.up1 3 0 rfl rfl (by rw [hb2]; rfl) rfl
  refine TO.code ?_
  refine TC.cond rfl (fun hc3 => ?_) (fun hc3 => ?_)
  · replace hm := cond_t hc3 hm
    refine TC.k ?_
    refine TC.region ?_
    refine TO.s rfl rfl rfl (StepS.assign rfl) ?_
    refine TO.code ?_
    cases hm
    refine TC.ret fun a w e s => ?_
    refine FRet.mk1 (P := Try.prog) (fn := Try.f5) (t := 4) e rfl rfl ?_
    exact ⟨rfl, s.mono fun _ => Sat.dropN 0⟩
  · replace hm := cond_f hc3 hm
    refine TC.skipk ?_
    refine TC.k ?_
    refine TC.region ?_
    refine TO.s rfl rfl rfl (StepS.assign rfl) ?_
    refine TO.code ?_
    cases hm
    refine TC.ret fun a w e s => ?_
    refine FRet.mk1 (P := Try.prog) (fn := Try.f5) (t := 4) e rfl rfl ?_
    exact ⟨rfl, s.mono fun _ => Sat.dropN 0⟩

set_option maxRecDepth 100000 in
theorem C7 {B : World} {L : List HP} {a0 : List Int} {a1 : List Int} {h0 : Value} {h1 : Value} {r0 : Bool} (e0 : Ent L (Rd 1 h0 (a0.map cI))) (e1 : Ent L (Rd 1 h1 (a1.map cI))) (hm : F7 a0 a1 = some r0) {w : World} (st : St B L w) : Calls Try.prog 7 #[h0, h1] w (fun e w' => (e = .returned (.bool r0) ∧ St B (L) w')) := by
  refine calls_of (N := 26) (L := L) (args := [h0, h1]) Try.func7 rfl rfl rfl ?_ st
  dsimp only [F7] at hm
  refine TC.k ?_
  refine TC.region ?_
  refine TO.s rfl rfl rfl (StepS.assign rfl) ?_
  refine TO.code ?_
  refine TC.k ?_
  refine TC.k ?_
  refine TC.region ?_
  refine TO.s rfl rfl rfl (StepS.move rfl) ?_
  refine TO.s rfl rfl rfl (StepS.lenm rfl e0 ksliceB_23_27_1_true rfl) ?_
  refine TO.s rfl rfl rfl (StepS.move rfl) ?_
  refine TO.s rfl rfl rfl (StepS.lenm rfl e1 ksliceB_23_27_1_true rfl) ?_
  refine TO.s rfl rfl rfl (StepS.cmp rfl rfl rfl) ?_
  refine TO.code ?_
  refine TC.cond rfl (fun hc1 => ?_) (fun hc1 => ?_)
  · replace hm := cond_t hc1 hm
    refine TC.k ?_
    refine TC.region ?_
    refine TO.s rfl rfl rfl (StepS.assign rfl) ?_
    refine TO.code ?_
    cases hm
    refine TC.ret fun a w e s => ?_
    refine FRet.mk1 (P := Try.prog) (fn := Try.f7) (t := 4) e rfl rfl ?_
    exact ⟨rfl, s.mono fun _ => Sat.dropN 0⟩
  · replace hm := cond_f hc1 hm
    refine TC.skipk ?_
    refine TC.k ?_
    refine TC.k ?_
    refine TC.region ?_
    refine TO.s rfl rfl rfl (StepS.assign rfl) ?_
    refine TO.code ?_
    obtain ⟨o4, hw5, hm⟩ := bind_some hm
    refine TC.loop hw5 (fun x2 => fun a w => Mid 26 B [(0, h0), (1, h1), (5, I x2)] (L) a w) (fun _ => fun a w => Mid 26 B [] (L) a w) (fun r0 => FRet Try.prog Try.f7 (fun e w' => (e = .returned (.bool r0) ∧ St B (L) w'))) ?_ ?_ ?_ ?_
    · rintro x2 o4r hb6 a w ⟨he, hs⟩
      dsimp only [F7_L0] at hb6
      refine TC.use ?_ he hs
      refine TC.k ?_
      refine TC.k ?_
      refine TC.region ?_
      refine TO.s rfl rfl rfl (StepS.move rfl) ?_
      refine TO.s rfl rfl rfl (StepS.move rfl) ?_
      refine TO.s rfl rfl rfl (StepS.lenm rfl e0 ksliceB_23_27_1_true rfl) ?_
      refine TO.s rfl rfl rfl (StepS.cmp rfl rfl rfl) ?_
      refine TO.code ?_
      refine TC.cond rfl (fun hc7 => ?_) (fun hc7 => ?_)
      · replace hb6 := cond_t hc7 hb6
        refine TC.skipk ?_
        refine TC.k ?_
        refine TC.block ?_
        refine TC.k ?_
        refine TC.region_still kfollows_mixedOrders_true (by kernel_rfl) ?_
        refine TS.s rfl rfl rfl (StepS.move rfl) ?_
        refine TS.s rfl rfl rfl (StepS.move rfl) ?_
        obtain ⟨x8, hx9, hb6⟩ := bind_some hb6
        refine TS.s rfl rfl rfl (StepS.idx rfl rfl e0 ksliceB_23_27_1_true (idx_spec hx9).1 (idxm_lt hx9)) ?_
        refine TS.s rfl rfl rfl (StepS.ld0 rfl e0 kscalB_27_true rfl (idxm hx9) rfl) ?_
        refine TS.s rfl rfl rfl (StepS.move rfl) ?_
        refine TS.s rfl rfl rfl (StepS.move rfl) ?_
        obtain ⟨x10, hx11, hb6⟩ := bind_some hb6
        refine TS.s rfl rfl rfl (StepS.idx rfl rfl e1 ksliceB_23_27_1_true (idx_spec hx11).1 (idxm_lt hx11)) ?_
        refine TS.s rfl rfl rfl (StepS.ld0 rfl e1 kscalB_27_true rfl (idxm hx11) rfl) ?_
        refine TS.s rfl rfl rfl (StepS.cmp rfl rfl rfl) ?_
        refine TS.code ?_
        refine TC.cond rfl (fun hc12 => ?_) (fun hc12 => ?_)
        · replace hb6 := cond_t hc12 hb6
          refine TC.k ?_
          refine TC.region ?_
          refine TO.s rfl rfl rfl (StepS.assign rfl) ?_
          refine TO.code ?_
          cases hb6
          refine TC.ret fun a w e s => ?_
          refine FRet.mk1 (P := Try.prog) (fn := Try.f7) (t := 4) e rfl rfl ?_
          exact ⟨rfl, s.mono fun _ => Sat.dropN 0⟩
        · replace hb6 := cond_f hc12 hb6
          refine TC.skipk ?_
          refine TC.region ?_
          refine TO.s rfl rfl rfl (StepS.move rfl) ?_
          refine TO.s rfl rfl rfl (StepS.ari rfl rfl rfl) ?_
          refine TO.s rfl rfl rfl (StepS.assign rfl) ?_
          cases hb6
          refine TO.nil fun a w e s => ?_
          exact ⟨e.sub (lk_of_allIn ⟨rfl, rfl, rfl, trivial⟩), s⟩
      · replace hb6 := cond_f hc7 hb6
        cases hb6
        refine TC.exit rfl fun a w e s => ?_
        exact ⟨e.sub (lk_of_allIn trivial), s⟩
    · exact fun a w e s => ⟨e.sub (lk_of_allIn ⟨rfl, rfl, rfl, trivial⟩), s⟩
    · rintro _ rfl a w ⟨he, hs⟩
      dsimp only [Ctl.on] at hm
      refine TC.use ?_ he hs
      refine TC.k ?_
      refine TC.region ?_
      refine TO.s rfl rfl rfl (StepS.assign rfl) ?_
      refine TO.code ?_
      cases hm
      refine TC.ret fun a w e s => ?_
      refine FRet.mk1 (P := Try.prog) (fn := Try.f7) (t := 4) e rfl rfl ?_
      exact ⟨rfl, s.mono fun _ => Sat.dropN 0⟩
    · rintro r rfl
      cases hm
      exact fun a w h => h

set_option maxRecDepth 100000 in
theorem C18 {B : World} {L : List HP} {a0 : List Int} {a1 : List Int} {h0 : Value} {h1 : Value} {r0 : Bool} (e0 : Ent L (Rd 1 h0 (a0.map cI))) (e1 : Ent L (Rd 1 h1 (a1.map cI))) (hm : F18 a0 a1 = some r0) {w : World} (st : St B L w) : Calls Try.prog 18 #[h0, h1] w (fun e w' => (e = .returned (.bool r0) ∧ St B (L) w')) := by
  refine calls_of (N := 26) (L := L) (args := [h0, h1]) Try.func18 rfl rfl rfl ?_ st
  dsimp only [F18] at hm
  refine TC.k ?_
  refine TC.region ?_
  refine TO.s rfl rfl rfl (StepS.assign rfl) ?_
  refine TO.code ?_
  refine TC.k ?_
  refine TC.k ?_
  refine TC.region ?_
  refine TO.s rfl rfl rfl (StepS.move rfl) ?_
  refine TO.s rfl rfl rfl (StepS.lenm rfl e0 ksliceB_37_3_1_true rfl) ?_
  refine TO.s rfl rfl rfl (StepS.move rfl) ?_
  refine TO.s rfl rfl rfl (StepS.lenm rfl e1 ksliceB_37_3_1_true rfl) ?_
  refine TO.s rfl rfl rfl (StepS.cmp rfl rfl rfl) ?_
  refine TO.code ?_
  refine TC.cond rfl (fun hc1 => ?_) (fun hc1 => ?_)
  · replace hm := cond_t hc1 hm
    refine TC.k ?_
    refine TC.region ?_
    refine TO.s rfl rfl rfl (StepS.assign rfl) ?_
    refine TO.code ?_
    cases hm
    refine TC.ret fun a w e s => ?_
    refine FRet.mk1 (P := Try.prog) (fn := Try.f18) (t := 4) e rfl rfl ?_
    exact ⟨rfl, s.mono fun _ => Sat.dropN 0⟩
  · replace hm := cond_f hc1 hm
    refine TC.skipk ?_
    refine TC.k ?_
    refine TC.k ?_
    refine TC.region ?_
    refine TO.s rfl rfl rfl (StepS.assign rfl) ?_
    refine TO.code ?_
    obtain ⟨o4, hw5, hm⟩ := bind_some hm
    refine TC.loop hw5 (fun x2 => fun a w => Mid 26 B [(0, h0), (1, h1), (5, I x2)] (L) a w) (fun _ => fun a w => Mid 26 B [] (L) a w) (fun r0 => FRet Try.prog Try.f18 (fun e w' => (e = .returned (.bool r0) ∧ St B (L) w'))) ?_ ?_ ?_ ?_
    · rintro x2 o4r hb6 a w ⟨he, hs⟩
      dsimp only [F18_L0] at hb6
      refine TC.use ?_ he hs
      refine TC.k ?_
      refine TC.k ?_
      refine TC.region ?_
      refine TO.s rfl rfl rfl (StepS.move rfl) ?_
      refine TO.s rfl rfl rfl (StepS.move rfl) ?_
      refine TO.s rfl rfl rfl (StepS.lenm rfl e0 ksliceB_37_3_1_true rfl) ?_
      refine TO.s rfl rfl rfl (StepS.cmp rfl rfl rfl) ?_
      refine TO.code ?_
      refine TC.cond rfl (fun hc7 => ?_) (fun hc7 => ?_)
      · replace hb6 := cond_t hc7 hb6
        refine TC.skipk ?_
        refine TC.k ?_
        refine TC.block ?_
        refine TC.k ?_
        refine TC.region_still kfollows_mixedOrders_true (by kernel_rfl) ?_
        refine TS.s rfl rfl rfl (StepS.move rfl) ?_
        refine TS.s rfl rfl rfl (StepS.move rfl) ?_
        obtain ⟨x8, hx9, hb6⟩ := bind_some hb6
        refine TS.s rfl rfl rfl (StepS.idx rfl rfl e0 ksliceB_37_3_1_true (idx_spec hx9).1 (idxm_lt hx9)) ?_
        refine TS.s rfl rfl rfl (StepS.ld0 rfl e0 kscalB_3_true rfl (idxm hx9) rfl) ?_
        refine TS.s rfl rfl rfl (StepS.move rfl) ?_
        refine TS.s rfl rfl rfl (StepS.move rfl) ?_
        obtain ⟨x10, hx11, hb6⟩ := bind_some hb6
        refine TS.s rfl rfl rfl (StepS.idx rfl rfl e1 ksliceB_37_3_1_true (idx_spec hx11).1 (idxm_lt hx11)) ?_
        refine TS.s rfl rfl rfl (StepS.ld0 rfl e1 kscalB_3_true rfl (idxm hx11) rfl) ?_
        refine TS.s rfl rfl rfl (StepS.cmp rfl rfl rfl) ?_
        refine TS.code ?_
        refine TC.cond rfl (fun hc12 => ?_) (fun hc12 => ?_)
        · replace hb6 := cond_t hc12 hb6
          refine TC.k ?_
          refine TC.region ?_
          refine TO.s rfl rfl rfl (StepS.assign rfl) ?_
          refine TO.code ?_
          cases hb6
          refine TC.ret fun a w e s => ?_
          refine FRet.mk1 (P := Try.prog) (fn := Try.f18) (t := 4) e rfl rfl ?_
          exact ⟨rfl, s.mono fun _ => Sat.dropN 0⟩
        · replace hb6 := cond_f hc12 hb6
          refine TC.skipk ?_
          refine TC.region ?_
          refine TO.s rfl rfl rfl (StepS.move rfl) ?_
          refine TO.s rfl rfl rfl (StepS.ari rfl rfl rfl) ?_
          refine TO.s rfl rfl rfl (StepS.assign rfl) ?_
          cases hb6
          refine TO.nil fun a w e s => ?_
          exact ⟨e.sub (lk_of_allIn ⟨rfl, rfl, rfl, trivial⟩), s⟩
      · replace hb6 := cond_f hc7 hb6
        cases hb6
        refine TC.exit rfl fun a w e s => ?_
        exact ⟨e.sub (lk_of_allIn trivial), s⟩
    · exact fun a w e s => ⟨e.sub (lk_of_allIn ⟨rfl, rfl, rfl, trivial⟩), s⟩
    · rintro _ rfl a w ⟨he, hs⟩
      dsimp only [Ctl.on] at hm
      refine TC.use ?_ he hs
      refine TC.k ?_
      refine TC.region ?_
      refine TO.s rfl rfl rfl (StepS.assign rfl) ?_
      refine TO.code ?_
      cases hm
      refine TC.ret fun a w e s => ?_
      refine FRet.mk1 (P := Try.prog) (fn := Try.f18) (t := 4) e rfl rfl ?_
      exact ⟨rfl, s.mono fun _ => Sat.dropN 0⟩
    · rintro r rfl
      cases hm
      exact fun a w h => h

set_option maxRecDepth 100000 in
theorem C8 {B : World} {L : List HP} {a0 : List (Int × Nat)} {a1 : List (Int × Nat)} {zp : List (List Int)} {h0 : Value} {h1 : Value} {z0 zs : List ZH} {r0 : Bool} (e0 : Ent L (Rd 2 h0 (a0.map (cZ44 zs)))) (e1 : Ent L (Rd 2 h1 (a1.map (cZ44 zs)))) (ez : Ent L (PZ 3 1 cI z0 zs zp)) (hm : F8 a0 a1 zp = some r0) {w : World} (st : St B L w) : Calls Try.prog 8 #[h0, h1] w (fun e w' => (e = .returned (.bool r0) ∧ St B (L) w')) := by
  refine calls_of (N := 42) (L := L) (args := [h0, h1]) Try.func8 rfl rfl rfl ?_ st
  dsimp only [F8] at hm
  refine TC.k ?_
  refine TC.region ?_
  refine TO.s rfl rfl rfl (StepS.assign rfl) ?_
  refine TO.code ?_
  refine TC.k ?_
  refine TC.k ?_
  refine TC.region ?_
  refine TO.s rfl rfl rfl (StepS.move rfl) ?_
  refine TO.s rfl rfl rfl (StepS.lenm rfl e0 ksliceB_34_44_2_true rfl) ?_
  refine TO.s rfl rfl rfl (StepS.move rfl) ?_
  refine TO.s rfl rfl rfl (StepS.lenm rfl e1 ksliceB_34_44_2_true rfl) ?_
  refine TO.s rfl rfl rfl (StepS.cmp rfl rfl rfl) ?_
  refine TO.code ?_
  refine TC.cond rfl (fun hc1 => ?_) (fun hc1 => ?_)
  · replace hm := cond_t hc1 hm
    refine TC.k ?_
    refine TC.region ?_
    refine TO.s rfl rfl rfl (StepS.assign rfl) ?_
    refine TO.code ?_
    cases hm
    refine TC.ret fun a w e s => ?_
    refine FRet.mk1 (P := Try.prog) (fn := Try.f8) (t := 4) e rfl rfl ?_
    exact ⟨rfl, s.mono fun _ => Sat.dropN 0⟩
  · replace hm := cond_f hc1 hm
    refine TC.skipk ?_
    refine TC.k ?_
    refine TC.k ?_
    refine TC.region ?_
    refine TO.s rfl rfl rfl (StepS.assign rfl) ?_
    refine TO.code ?_
    obtain ⟨o4, hw5, hm⟩ := bind_some hm
    refine TC.loop hw5 (fun x2 => fun a w => Mid 42 B [(0, h0), (1, h1), (5, I x2)] (L) a w) (fun _ => fun a w => Mid 42 B [] (L) a w) (fun r0 => FRet Try.prog Try.f8 (fun e w' => (e = .returned (.bool r0) ∧ St B (L) w'))) ?_ ?_ ?_ ?_
    · rintro x2 o4r hb6 a w ⟨he, hs⟩
      dsimp only [F8_L0] at hb6
      refine TC.use ?_ he hs
      refine TC.k ?_
      refine TC.k ?_
      refine TC.region ?_
      refine TO.s rfl rfl rfl (StepS.move rfl) ?_
      refine TO.s rfl rfl rfl (StepS.move rfl) ?_
      refine TO.s rfl rfl rfl (StepS.lenm rfl e0 ksliceB_34_44_2_true rfl) ?_
      refine TO.s rfl rfl rfl (StepS.cmp rfl rfl rfl) ?_
      refine TO.code ?_
      refine TC.cond rfl (fun hc7 => ?_) (fun hc7 => ?_)
      · replace hb6 := cond_t hc7 hb6
        refine TC.skipk ?_
        refine TC.k ?_
        refine TC.block ?_
        refine TC.k ?_
        refine TC.region_quiet kfollows_mixedOrders_true (by kernel_rfl) ?_
        refine TQ.s rfl rfl rfl (StepS.move rfl).q ?_
        refine TQ.s rfl rfl rfl (StepS.move rfl).q ?_
        obtain ⟨x8, hx9, hb6⟩ := bind_some hb6
        refine TQ.s rfl rfl rfl (StepS.idx rfl rfl e0 ksliceB_34_44_2_true (idx_spec hx9).1 (idxm_lt hx9)).q ?_
        refine TQ.s rfl rfl rfl (StepS.ptrf rfl kfieldB_44_0_0_true).q ?_
        refine TQ.s rfl rfl rfl (StepS.ld1 rfl e0 kscalB_3_true rfl (idxm hx9) rfl).q ?_
        refine TQ.s rfl rfl rfl (StepS.move rfl).q ?_
        refine TQ.s rfl rfl rfl (StepS.move rfl).q ?_
        obtain ⟨x10, hx11, hb6⟩ := bind_some hb6
        refine TQ.s rfl rfl rfl (StepS.idx rfl rfl e1 ksliceB_34_44_2_true (idx_spec hx11).1 (idxm_lt hx11)).q ?_
        refine TQ.s rfl rfl rfl (StepS.ptrf rfl kfieldB_44_0_0_true).q ?_
        refine TQ.s rfl rfl rfl (StepS.ld1 rfl e1 kscalB_3_true rfl (idxm hx11) rfl).q ?_
        refine TQ.s rfl rfl rfl (StepS.cmp rfl rfl rfl).q ?_
        refine TQ.s rfl rfl rfl (StepS.move rfl).q ?_
        obtain ⟨b13, hj14, hb6⟩ := bind_some hb6
        refine TQ.mid1 13 41 (.bool b13) ?_ ?_
        · refine bcase ((x8.1 != x10.1)) (fun hb12 => ?_) (fun hb12 => ?_)
          · replace hj14 := cond_t hb12 hj14
            cases hj14
            refine TQ.skip rfl rfl rfl (skipT hb12) rfl rfl ?_
            refine TQ.skip rfl rfl rfl (skipT hb12) rfl rfl ?_
            refine TQ.skip rfl rfl rfl (skipT hb12) rfl rfl ?_
            refine TQ.skip rfl rfl rfl (skipT hb12) rfl rfl ?_
            refine TQ.skip rfl rfl rfl (skipT hb12) rfl rfl ?_
            refine TQ.skip rfl rfl rfl (skipT hb12) rfl rfl ?_
            refine TQ.skip rfl rfl rfl (skipT hb12) rfl rfl ?_
            refine TQ.skip rfl rfl rfl (skipT hb12) rfl rfl ?_
            refine TQ.skip rfl rfl rfl (skipT hb12) rfl rfl ?_
            refine TQ.skip rfl rfl rfl (skipT hb12) rfl rfl ?_
            refine TQ.skip rfl rfl rfl (skipT hb12) rfl rfl ?_
            refine TQ.skip rfl rfl rfl (skipT hb12) rfl rfl ?_
            refine TQ.s rfl rfl rfl (StepS.pickT rfl hb12 rfl).q ?_
            exact TQ.up1 13 0 rfl rfl rfl rfl
          · replace hj14 := cond_f hb12 hj14
            refine TQ.sw rfl rfl rfl hb12 rfl rfl (StepS.move rfl).q ?_
            refine TQ.sw rfl rfl rfl hb12 rfl rfl (StepS.move rfl).q ?_
            obtain ⟨x15, hx16, hj14⟩ := bind_some hj14
            refine TQ.sw rfl rfl rfl hb12 rfl rfl (StepS.idx rfl rfl e0 ksliceB_34_44_2_true (idx_spec hx16).1 (idxm_lt hx16)).q ?_
            refine TQ.sw rfl rfl rfl hb12 rfl rfl (StepS.ptrf rfl kfieldB_44_1_1_true).q ?_
            obtain ⟨l17, hz18, hj14⟩ := bind_some hj14
            refine TQ.sw rfl rfl rfl hb12 rfl rfl (StepS.ld1 rfl e0 kscalB_37_true rfl (idxm hx16) rfl).q ?_
            refine TQ.sw rfl rfl rfl hb12 rfl rfl (StepS.move rfl).q ?_
            refine TQ.sw rfl rfl rfl hb12 rfl rfl (StepS.move rfl).q ?_
            obtain ⟨x19, hx20, hj14⟩ := bind_some hj14
            refine TQ.sw rfl rfl rfl hb12 rfl rfl (StepS.idx rfl rfl e1 ksliceB_34_44_2_true (idx_spec hx20).1 (idxm_lt hx20)).q ?_
            refine TQ.sw rfl rfl rfl hb12 rfl rfl (StepS.ptrf rfl kfieldB_44_1_1_true).q ?_
            obtain ⟨l21, hz22, hj14⟩ := bind_some hj14
            refine TQ.sw rfl rfl rfl hb12 rfl rfl (StepS.ld1 rfl e1 kscalB_37_true rfl (idxm hx20) rfl).q ?_
            obtain ⟨r23, hc24, hj14⟩ := bind_some hj14
            refine TQ.sw rfl rfl rfl hb12 rfl rfl (StepQ.call kcallB_18_true rfl rfl (fun _ st => C18 (PZ.rd ez hz18) (PZ.rd ez hz22) hc24 st)) ?_
            refine TQ.sw rfl rfl rfl hb12 rfl rfl (StepS.not rfl).q ?_
            cases hj14
            refine TQ.s rfl rfl rfl (StepS.pickF rfl hb12 rfl).q ?_
            exact TQ.up1 13 0 rfl rfl rfl rfl
        refine TQ.code ?_
        refine TC.cond rfl (fun hc25 => ?_) (fun hc25 => ?_)
        · replace hb6 := cond_t hc25 hb6
          refine TC.k ?_
          refine TC.region ?_
          refine TO.s rfl rfl rfl (StepS.assign rfl) ?_
          refine TO.code ?_
          cases hb6
          refine TC.ret fun a w e s => ?_
          refine FRet.mk1 (P := Try.prog) (fn := Try.f8) (t := 4) e rfl rfl ?_
          exact ⟨rfl, s.mono fun _ => Sat.dropN 0⟩
        · replace hb6 := cond_f hc25 hb6
          refine TC.skipk ?_
          refine TC.region ?_
          refine TO.s rfl rfl rfl (StepS.move rfl) ?_
          refine TO.s rfl rfl rfl (StepS.ari rfl rfl rfl) ?_
          refine TO.s rfl rfl rfl (StepS.assign rfl) ?_
          cases hb6
          refine TO.nil fun a w e s => ?_
          exact ⟨e.sub (lk_of_allIn ⟨rfl, rfl, rfl, trivial⟩), s⟩
      · replace hb6 := cond_f hc7 hb6
        cases hb6
        refine TC.exit rfl fun a w e s => ?_
        exact ⟨e.sub (lk_of_allIn trivial), s⟩
    · exact fun a w e s => ⟨e.sub (lk_of_allIn ⟨rfl, rfl, rfl, trivial⟩), s⟩
    · rintro _ rfl a w ⟨he, hs⟩
      dsimp only [Ctl.on] at hm
      refine TC.use ?_ he hs
      refine TC.k ?_
      refine TC.region ?_
      refine TO.s rfl rfl rfl (StepS.assign rfl) ?_
      refine TO.code ?_
      cases hm
      refine TC.ret fun a w e s => ?_
      refine FRet.mk1 (P := Try.prog) (fn := Try.f8) (t := 4) e rfl rfl ?_
      exact ⟨rfl, s.mono fun _ => Sat.dropN 0⟩
    · rintro r rfl
      cases hm
      exact fun a w h => h

set_option maxRecDepth 100000 in
theorem C10 {B : World} {L : List HP} {a0 : List Int} {h0 : Value} {r0 : List Int} (e0 : Ent L (Rd 1 h0 (a0.map cI))) (hm : F10 a0 = some r0) {w : World} (st : St B L w) : Calls Try.prog 10 #[h0] w (fun e w' => ∃ v M, e = .returned v ∧ (∃ (qr0 : Value), v = qr0 ∧ M = (OwnS 3 1 qr0 (r0.map cI) :: L)) ∧ St B M w') := by
  refine calls_of (N := 8) (L := L) (args := [h0]) Try.func10 rfl rfl rfl ?_ st
  dsimp only [F10] at hm
  refine TC.k ?_
  refine TC.region ?_
  refine TO.s rfl rfl rfl (StepS.assign rfl) ?_
  refine TO.code ?_
  refine TC.k ?_
  refine TC.k ?_
  refine TC.region ?_
  refine TO.s rfl rfl rfl (StepS.move rfl) ?_
  refine TO.nilck rfl e0 ksliceB_37_3_1_true rfl fun b hb => ?_
  refine TO.code ?_
  refine TC.cond rfl (fun hc => ?_) (fun hc => ?_)
  · have hn : a0 = [] := by simpa using hb hc
    subst hn
    have hr : r0 = [] := by simpa using (appl_spec hm).2.2
    subst hr
    refine TC.k ?_
    refine TC.region ?_
    refine TO.s rfl rfl rfl (StepS.assign rfl) ?_
    refine TO.code ?_
    refine TC.ret fun a w e s => ?_
    refine FRet.mk1 (P := Try.prog) (fn := Try.f10) (t := 2) e rfl rfl ?_
    exact ⟨_, _, rfl, ⟨_, rfl, rfl⟩, s.mono fun _ s => Sat.nilS s⟩
  · refine TC.skipk ?_
    refine TC.k ?_
    refine TC.region ?_
    refine TO.lit0 (f := cI) ksliceB_37_3_1_true rfl fun v1 => ?_
    refine TO.s rfl rfl rfl (StepS.move rfl) ?_
    refine TO.app (k := 0) (f := cI) kelemB_37_3_1_8_true (by decide) rfl rfl rfl e0.tl hm (fun x c hc => by simp [Value.oneCell'] at hc ⊢; first | (obtain rfl := hc; rfl) | (rcases hc with rfl <;> rfl)) rfl rfl fun v2 => ?_
    refine TO.s rfl rfl rfl (StepS.assign rfl) ?_
    refine TO.code ?_
    refine TC.ret fun a w e s => ?_
    refine FRet.mk1 (P := Try.prog) (fn := Try.f10) (t := 2) e rfl rfl ?_
    exact ⟨_, _, rfl, ⟨_, rfl, rfl⟩, s⟩

set_option maxRecDepth 100000 in
theorem C24 {B : World} {L : List HP} {a0 : Int} {r0 : Bool} (hm : F24 a0 = some r0) {w : World} (st : St B L w) : Calls Try.prog 24 #[I a0] w (fun e w' => (e = .returned (.bool r0) ∧ St B (L) w')) := by
  refine calls_of (N := 6) (L := L) (args := [I a0]) Try.func24 rfl rfl rfl ?_ st
  dsimp only [F24] at hm
  refine TC.k ?_
  refine TC.region ?_
  refine TO.s rfl rfl rfl (StepS.assign rfl) ?_
  refine TO.code ?_
  refine TC.k ?_
  refine TC.region ?_
  refine TO.s rfl rfl rfl (StepS.move rfl) ?_
  refine TO.s rfl rfl rfl (StepS.move rfl) ?_
  refine TO.s rfl rfl rfl (StepS.cmp rfl rfl rfl) ?_
  refine TO.s rfl rfl rfl (StepS.assign rfl) ?_
  refine TO.code ?_
  cases hm
  refine TC.ret fun a w e s => ?_
  refine FRet.mk1 (P := Try.prog) (fn := Try.f24) (t := 2) e rfl rfl ?_
  exact ⟨rfl, s.mono fun _ => Sat.dropN 0⟩

set_option maxRecDepth 100000 in
theorem C14 {B : World} {L : List HP} {a0 : Int} {a1 : Int} {r0 : Int} (hm : F14 a0 a1 = some r0) {w : World} (st : St B L w) : Calls Try.prog 14 #[I a0, I a1] w (fun e w' => (e = .returned (I r0) ∧ St B (L) w')) := by
  refine calls_of (N := 20) (L := L) (args := [I a0, I a1]) Try.func14 rfl rfl rfl ?_ st
  dsimp only [F14] at hm
  refine TC.k ?_
  refine TC.region ?_
  refine TO.s rfl rfl rfl (StepS.assign rfl) ?_
  refine TO.code ?_
  refine TC.k ?_
  refine TC.region ?_
  refine TO.s rfl rfl rfl (StepS.move rfl) ?_
  obtain ⟨r1, hc2, hm⟩ := bind_some hm
  refine TO.q rfl rfl rfl (StepQ.call kcallB_24_true rfl rfl (fun _ st => C24  hc2 st)) ?_
  refine TO.s rfl rfl rfl (StepS.assign rfl) ?_
  refine TO.code ?_
  refine TC.k ?_
  refine TC.region ?_
  refine TO.s rfl rfl rfl (StepS.move rfl) ?_
  obtain ⟨r3, hc4, hm⟩ := bind_some hm
  refine TO.q rfl rfl rfl (StepQ.call kcallB_24_true rfl rfl (fun _ st => C24  hc4 st)) ?_
  refine TO.s rfl rfl rfl (StepS.assign rfl) ?_
  refine TO.code ?_
  refine TC.k ?_
  refine TC.k ?_
  refine TC.region ?_
  refine TO.s rfl rfl rfl (StepS.move rfl) ?_
  refine TO.code ?_
  refine TC.cond rfl (fun hc5 => ?_) (fun hc5 => ?_)
  · replace hm := cond_t hc5 hm
    refine TC.k ?_
    refine TC.k ?_
    refine TC.region ?_
    refine TO.s rfl rfl rfl (StepS.move rfl) ?_
    refine TO.code ?_
    refine TC.cond rfl (fun hc6 => ?_) (fun hc6 => ?_)
    · replace hm := cond_t hc6 hm
      refine TC.k ?_
      refine TC.region ?_
      refine TO.s rfl rfl rfl (StepS.assign rfl) ?_
      refine TO.code ?_
      cases hm
      refine TC.ret fun a w e s => ?_
      refine FRet.mk1 (P := Try.prog) (fn := Try.f14) (t := 4) e rfl rfl ?_
      exact ⟨rfl, s.mono fun _ => Sat.dropN 0⟩
    · replace hm := cond_f hc6 hm
      refine TC.skipk ?_
      refine TC.k ?_
      refine TC.region ?_
      refine TO.s rfl rfl rfl (StepS.assign rfl) ?_
      refine TO.code ?_
      cases hm
      refine TC.ret fun a w e s => ?_
      refine FRet.mk1 (P := Try.prog) (fn := Try.f14) (t := 4) e rfl rfl ?_
      exact ⟨rfl, s.mono fun _ => Sat.dropN 0⟩
  · replace hm := cond_f hc5 hm
    refine TC.skipk ?_
    refine TC.k ?_
    refine TC.k ?_
    refine TC.region ?_
    refine TO.s rfl rfl rfl (StepS.move rfl) ?_
    refine TO.code ?_
    refine TC.cond rfl (fun hc7 => ?_) (fun hc7 => ?_)
    · replace hm := cond_t hc7 hm
      refine TC.k ?_
      refine TC.region ?_
      refine TO.s rfl rfl rfl (StepS.assign rfl) ?_
      refine TO.code ?_
      cases hm
      refine TC.ret fun a w e s => ?_
      refine FRet.mk1 (P := Try.prog) (fn := Try.f14) (t := 4) e rfl rfl ?_
      exact ⟨rfl, s.mono fun _ => Sat.dropN 0⟩
    · replace hm := cond_f hc7 hm
      refine TC.skipk ?_
      refine TC.k ?_
      refine TC.k ?_
      refine TC.region ?_
      refine TO.s rfl rfl rfl (StepS.move rfl) ?_
      refine TO.s rfl rfl rfl (StepS.move rfl) ?_
      refine TO.s rfl rfl rfl (StepS.cmp rfl rfl rfl) ?_
      refine TO.code ?_
      refine TC.cond rfl (fun hc8 => ?_) (fun hc8 => ?_)
      · replace hm := cond_t hc8 hm
        refine TC.k ?_
        refine TC.region ?_
        refine TO.s rfl rfl rfl (StepS.assign rfl) ?_
        refine TO.code ?_
        cases hm
        refine TC.ret fun a w e s => ?_
        refine FRet.mk1 (P := Try.prog) (fn := Try.f14) (t := 4) e rfl rfl ?_
        exact ⟨rfl, s.mono fun _ => Sat.dropN 0⟩
      · replace hm := cond_f hc8 hm
        refine TC.skipk ?_
        refine TC.k ?_
        refine TC.k ?_
        refine TC.region ?_
        refine TO.s rfl rfl rfl (StepS.move rfl) ?_
        refine TO.s rfl rfl rfl (StepS.move rfl) ?_
        refine TO.s rfl rfl rfl (StepS.cmp rfl rfl rfl) ?_
        refine TO.code ?_
        refine TC.cond rfl (fun hc9 => ?_) (fun hc9 => ?_)
        · replace hm := cond_t hc9 hm
          refine TC.k ?_
          refine TC.region ?_
          refine TO.s rfl rfl rfl (StepS.assign rfl) ?_
          refine TO.code ?_
          cases hm
          refine TC.ret fun a w e s => ?_
          refine FRet.mk1 (P := Try.prog) (fn := Try.f14) (t := 4) e rfl rfl ?_
          exact ⟨rfl, s.mono fun _ => Sat.dropN 0⟩
        · replace hm := cond_f hc9 hm
          refine TC.skipk ?_
          refine TC.k ?_
          refine TC.region ?_
          refine TO.s rfl rfl rfl (StepS.assign rfl) ?_
          refine TO.code ?_
          cases hm
          refine TC.ret fun a w e s => ?_
          refine FRet.mk1 (P := Try.prog) (fn := Try.f14) (t := 4) e rfl rfl ?_
          exact ⟨rfl, s.mono fun _ => Sat.dropN 0⟩

set_option maxRecDepth 100000 in
theorem C15 {B : World} {L : List HP} {a0 : List Int} {a1 : List Int} {h0 : Value} {h1 : Value} {r0 : Int} (e0 : Ent L (Rd 1 h0 (a0.map cI))) (e1 : Ent L (Rd 1 h1 (a1.map cI))) (hm : F15 a0 a1 = some r0) {w : World} (st : St B L w) : Calls Try.prog 15 #[h0, h1] w (fun e w' => (e = .returned (I r0) ∧ St B (L) w')) := by
  refine calls_of (N := 36) (L := L) (args := [h0, h1]) Try.func15 rfl rfl rfl ?_ st
  dsimp only [F15] at hm
  refine TC.k ?_
  refine TC.region ?_
  refine TO.s rfl rfl rfl (StepS.assign rfl) ?_
  refine TO.code ?_
  refine TC.k ?_
  refine TC.k ?_
  refine TC.region ?_
  refine TO.s rfl rfl rfl (StepS.move rfl) ?_
  refine TO.s rfl rfl rfl (StepS.lenm rfl e0 ksliceB_37_3_1_true rfl) ?_
  refine TO.s rfl rfl rfl (StepS.move rfl) ?_
  refine TO.code ?_
  obtain ⟨o3, hw4, hm⟩ := bind_some hm
  refine TC.loop hw4 (fun x1 => fun a w => Mid 36 B [(0, h0), (1, h1), (9, h0), (10, I (a0.length : Int)), (11, I x1)] (L) a w) (fun _ => fun a w => Mid 36 B [(0, h0), (1, h1)] (L) a w) (fun r0 => FRet Try.prog Try.f15 (fun e w' => (e = .returned (I r0) ∧ St B (L) w'))) ?_ ?_ ?_ ?_
  · rintro x1 o3r hb5 a w ⟨he, hs⟩
    dsimp only [F15_L0] at hb5
    refine TC.use ?_ he hs
    refine TC.k ?_
    refine TC.region ?_
    refine TO.s rfl rfl rfl (StepS.cmp rfl rfl rfl) ?_
    refine TO.code ?_
    refine TC.k ?_
    refine TC.cond rfl (fun hc6 => ?_) (fun hc6 => ?_)
    · replace hb5 := cond_t hc6 hb5
      refine TC.skipk ?_
      refine TC.k ?_
      refine TC.block ?_
      refine TC.k ?_
      refine TC.region ?_
      refine TO.s rfl rfl rfl (StepS.move rfl) ?_
      obtain ⟨x7, hx8, hb5⟩ := bind_some hb5
      refine TO.s rfl rfl rfl (StepS.idx rfl rfl e0 ksliceB_37_3_1_true (idx_spec hx8).1 (idxm_lt hx8)) ?_
      refine TO.s rfl rfl rfl (StepS.ld0 rfl e0 kscalB_3_true rfl (idxm hx8) rfl) ?_
      refine TO.s rfl rfl rfl (StepS.assign rfl) ?_
      refine TO.s rfl rfl rfl (StepS.assign rfl) ?_
      refine TO.code ?_
      refine TC.k ?_
      refine TC.k ?_
      refine TC.region ?_
      refine TO.s rfl rfl rfl (StepS.move rfl) ?_
      refine TO.s rfl rfl rfl (StepS.move rfl) ?_
      refine TO.s rfl rfl rfl (StepS.lenm rfl e1 ksliceB_37_3_1_true rfl) ?_
      refine TO.s rfl rfl rfl (StepS.cmp rfl rfl rfl) ?_
      refine TO.code ?_
      refine TC.cond rfl (fun hc9 => ?_) (fun hc9 => ?_)
      · replace hb5 := cond_t hc9 hb5
        refine TC.k ?_
        refine TC.region ?_
        refine TO.s rfl rfl rfl (StepS.assign rfl) ?_
        refine TO.code ?_
        cases hb5
        refine TC.ret fun a w e s => ?_
        refine FRet.mk1 (P := Try.prog) (fn := Try.f15) (t := 4) e rfl rfl ?_
        exact ⟨rfl, s.mono fun _ => Sat.dropN 0⟩
      · replace hb5 := cond_f hc9 hb5
        refine TC.skipk ?_
        refine TC.k ?_
        refine TC.region ?_
        refine TO.s rfl rfl rfl (StepS.move rfl) ?_
        refine TO.s rfl rfl rfl (StepS.move rfl) ?_
        obtain ⟨x10, hx11, hb5⟩ := bind_some hb5
        refine TO.s rfl rfl rfl (StepS.idx rfl rfl e1 ksliceB_37_3_1_true (idx_spec hx11).1 (idxm_lt hx11)) ?_
        refine TO.s rfl rfl rfl (StepS.ld0 rfl e1 kscalB_3_true rfl (idxm hx11) rfl) ?_
        refine TO.s rfl rfl rfl (StepS.assign rfl) ?_
        refine TO.code ?_
        refine TC.k ?_
        refine TC.region ?_
        refine TO.s rfl rfl rfl (StepS.move rfl) ?_
        refine TO.s rfl rfl rfl (StepS.move rfl) ?_
        obtain ⟨r12, hc13, hb5⟩ := bind_some hb5
        refine TO.q rfl rfl rfl (StepQ.call kcallB_14_true rfl rfl (fun _ st => C14  hc13 st)) ?_
        refine TO.s rfl rfl rfl (StepS.assign rfl) ?_
        refine TO.code ?_
        refine TC.k ?_
        refine TC.region ?_
        refine TO.s rfl rfl rfl (StepS.move rfl) ?_
        refine TO.s rfl rfl rfl (StepS.cmp rfl rfl rfl) ?_
        refine TO.code ?_
        refine TC.cond rfl (fun hc14 => ?_) (fun hc14 => ?_)
        · replace hb5 := cond_t hc14 hb5
          refine TC.k ?_
          refine TC.region ?_
          refine TO.s rfl rfl rfl (StepS.move rfl) ?_
          refine TO.s rfl rfl rfl (StepS.assign rfl) ?_
          refine TO.code ?_
          cases hb5
          refine TC.ret fun a w e s => ?_
          refine FRet.mk1 (P := Try.prog) (fn := Try.f15) (t := 4) e rfl rfl ?_
          exact ⟨rfl, s.mono fun _ => Sat.dropN 0⟩
        · replace hb5 := cond_f hc14 hb5
          refine TC.skipk ?_
          refine TC.region ?_
          refine TO.s rfl rfl rfl (StepS.ari rfl rfl rfl) ?_
          refine TO.s rfl rfl rfl (StepS.move rfl) ?_
          cases hb5
          refine TO.nil fun a w e s => ?_
          exact ⟨e.sub (lk_of_allIn ⟨rfl, rfl, rfl, rfl, rfl, trivial⟩), s⟩
    · replace hb5 := cond_f hc6 hb5
      cases hb5
      refine TC.exit rfl fun a w e s => ?_
      exact ⟨e.sub (lk_of_allIn ⟨rfl, rfl, trivial⟩), s⟩
  · exact fun a w e s => ⟨e.sub (lk_of_allIn ⟨rfl, rfl, rfl, rfl, rfl, trivial⟩), s⟩
  · rintro _ rfl a w ⟨he, hs⟩
    dsimp only [Ctl.on] at hm
    refine TC.use ?_ he hs
    refine TC.k ?_
    refine TC.k ?_
    refine TC.region ?_
    refine TO.s rfl rfl rfl (StepS.move rfl) ?_
    refine TO.s rfl rfl rfl (StepS.lenm rfl e0 ksliceB_37_3_1_true rfl) ?_
    refine TO.s rfl rfl rfl (StepS.move rfl) ?_
    refine TO.s rfl rfl rfl (StepS.lenm rfl e1 ksliceB_37_3_1_true rfl) ?_
    refine TO.s rfl rfl rfl (StepS.cmp rfl rfl rfl) ?_
    refine TO.code ?_
    refine TC.cond rfl (fun hc15 => ?_) (fun hc15 => ?_)
    · replace hm := cond_t hc15 hm
      refine TC.k ?_
      refine TC.region ?_
      refine TO.s rfl rfl rfl (StepS.assign rfl) ?_
      refine TO.code ?_
      cases hm
      refine TC.ret fun a w e s => ?_
      refine FRet.mk1 (P := Try.prog) (fn := Try.f15) (t := 4) e rfl rfl ?_
      exact ⟨rfl, s.mono fun _ => Sat.dropN 0⟩
    · replace hm := cond_f hc15 hm
      refine TC.skipk ?_
      refine TC.k ?_
      refine TC.region ?_
      refine TO.s rfl rfl rfl (StepS.assign rfl) ?_
      refine TO.code ?_
      cases hm
      refine TC.ret fun a w e s => ?_
      refine FRet.mk1 (P := Try.prog) (fn := Try.f15) (t := 4) e rfl rfl ?_
      exact ⟨rfl, s.mono fun _ => Sat.dropN 0⟩
  · rintro r rfl
    cases hm
    exact fun a w h => h

set_option maxRecDepth 100000 in
theorem C13 {B : World} {L : List HP} {a0 : List Int} {h0 : Value} {r0 : Int} (e0 : Ent L (Rd 1 h0 (a0.map cI))) (hm : F13 a0 = some r0) {w : World} (st : St B L w) : Calls Try.prog 13 #[h0] w (fun e w' => (e = .returned (I r0) ∧ St B (L) w')) := by
  refine calls_of (N := 18) (L := L) (args := [h0]) Try.func13 rfl rfl rfl ?_ st
  dsimp only [F13] at hm
  refine TC.k ?_
  refine TC.region ?_
  refine TO.s rfl rfl rfl (StepS.assign rfl) ?_
  refine TO.code ?_
  refine TC.k ?_
  refine TC.region ?_
  refine TO.s rfl rfl rfl (StepS.assign rfl) ?_
  refine TO.code ?_
  refine TC.k ?_
  refine TC.k ?_
  refine TC.region ?_
  refine TO.s rfl rfl rfl (StepS.move rfl) ?_
  refine TO.s rfl rfl rfl (StepS.lenm rfl e0 ksliceB_37_3_1_true rfl) ?_
  refine TO.s rfl rfl rfl (StepS.move rfl) ?_
  refine TO.code ?_
  obtain ⟨o3, hw4, hm⟩ := bind_some hm
  refine TC.loop hw4 (fun x1 => fun a w => Mid 18 B [(3, I 0), (6, h0), (7, I (a0.length : Int)), (8, I x1)] (L) a w) (fun _ => fun a w => Mid 18 B [(3, I 0)] (L) a w) (fun r0 => FRet Try.prog Try.f13 (fun e w' => (e = .returned (I r0) ∧ St B (L) w'))) ?_ ?_ ?_ ?_
  · rintro x1 o3r hb5 a w ⟨he, hs⟩
    dsimp only [F13_L0] at hb5
    refine TC.use ?_ he hs
    refine TC.k ?_
    refine TC.region ?_
    refine TO.s rfl rfl rfl (StepS.cmp rfl rfl rfl) ?_
    refine TO.code ?_
    refine TC.k ?_
    refine TC.cond rfl (fun hc6 => ?_) (fun hc6 => ?_)
    · replace hb5 := cond_t hc6 hb5
      refine TC.skipk ?_
      refine TC.k ?_
      refine TC.block ?_
      refine TC.k ?_
      refine TC.region ?_
      obtain ⟨x7, hx8, hb5⟩ := bind_some hb5
      refine TO.s rfl rfl rfl (StepS.idx rfl rfl e0 ksliceB_37_3_1_true (idx_spec hx8).1 (idxm_lt hx8)) ?_
      refine TO.s rfl rfl rfl (StepS.ld0 rfl e0 kscalB_3_true rfl (idxm hx8) rfl) ?_
      refine TO.s rfl rfl rfl (StepS.assign rfl) ?_
      refine TO.code ?_
      refine TC.k ?_
      refine TC.region ?_
      refine TO.s rfl rfl rfl (StepS.move rfl) ?_
      refine TO.s rfl rfl rfl (StepS.move rfl) ?_
      refine TO.s rfl rfl rfl (StepS.cmp rfl rfl rfl) ?_
      refine TO.code ?_
      refine TC.cond rfl (fun hc9 => ?_) (fun hc9 => ?_)
      · replace hb5 := cond_t hc9 hb5
        refine TC.k ?_
        refine TC.region ?_
        refine TO.s rfl rfl rfl (StepS.move rfl) ?_
        refine TO.s rfl rfl rfl (StepS.assign rfl) ?_
        refine TO.code ?_
        cases hb5
        refine TC.ret fun a w e s => ?_
        refine FRet.mk1 (P := Try.prog) (fn := Try.f13) (t := 2) e rfl rfl ?_
        exact ⟨rfl, s.mono fun _ => Sat.dropN 0⟩
      · replace hb5 := cond_f hc9 hb5
        refine TC.skipk ?_
        refine TC.region ?_
        refine TO.s rfl rfl rfl (StepS.ari rfl rfl rfl) ?_
        refine TO.s rfl rfl rfl (StepS.move rfl) ?_
        cases hb5
        refine TO.nil fun a w e s => ?_
        exact ⟨e.sub (lk_of_allIn ⟨rfl, rfl, rfl, rfl, trivial⟩), s⟩
    · replace hb5 := cond_f hc6 hb5
      cases hb5
      refine TC.exit rfl fun a w e s => ?_
      exact ⟨e.sub (lk_of_allIn ⟨rfl, trivial⟩), s⟩
  · exact fun a w e s => ⟨e.sub (lk_of_allIn ⟨rfl, rfl, rfl, rfl, trivial⟩), s⟩
  · rintro _ rfl a w ⟨he, hs⟩
    dsimp only [Ctl.on] at hm
    refine TC.use ?_ he hs
    refine TC.k ?_
    refine TC.region ?_
    refine TO.s rfl rfl rfl (StepS.move rfl) ?_
    refine TO.s rfl rfl rfl (StepS.assign rfl) ?_
    refine TO.code ?_
    cases hm
    refine TC.ret fun a w e s => ?_
    refine FRet.mk1 (P := Try.prog) (fn := Try.f13) (t := 2) e rfl rfl ?_
    exact ⟨rfl, s.mono fun _ => Sat.dropN 0⟩
  · rintro r rfl
    cases hm
    exact fun a w h => h

set_option maxRecDepth 100000 in
theorem C12 {B : World} {L : List HP} {a0 : Int × Nat} {a1 : Int × Nat} {zp : List (List Int)} {z0 zs : List ZH} {r0 : Int} (ez : Ent L (PZ 3 1 cI z0 zs zp)) (hm : F12 a0 a1 zp = some r0) {w : World} (st : St B L w) : Calls Try.prog 12 #[.agg ((cZ44 zs) a0).toArray, .agg ((cZ44 zs) a1).toArray] w (fun e w' => (e = .returned (I r0) ∧ St B (L) w')) := by
  refine calls_of (N := 17) (L := L) (args := [.agg ((cZ44 zs) a0).toArray, .agg ((cZ44 zs) a1).toArray]) Try.func12 rfl rfl rfl ?_ st
  dsimp only [F12] at hm
  refine TC.k ?_
  refine TC.region ?_
  refine TO.box (cs := [I a0.1, zv zs a0.2]) rfl rfl rfl fun b1 => ?_
  refine TO.box (cs := [I a1.1, zv zs a1.2]) rfl rfl rfl fun b2 => ?_
  refine TO.s rfl rfl rfl (StepS.assign rfl) ?_
  refine TO.code ?_
  refine TC.k ?_
  refine TC.region_any (Bx b2 44 [I a1.1, zv zs a1.2] :: Bx b1 44 [I a0.1, zv zs a0.2] :: L) 13 13 kfollows_mixedOrders_true rfl ?_
  refine TA.takeW 0 rfl rfl rfl rfl (StepS.fld rfl kfieldB_44_0_0_true) (by kernel_rfl) (by kernel_rfl) (by kernel_rfl) rfl (.inr (fun _ s => s)) ?_
  refine TA.take 1 rfl rfl rfl rfl (StepS.ldB rfl (Ent.at 1 rfl) kscalB_3_true rfl) (by kernel_rfl) (by kernel_rfl) (by kernel_rfl) (by kernel_rfl) (by kernel_rfl) (fun _ s => s) ?_
  refine TA.takeW 2 rfl rfl rfl rfl (StepS.fld rfl kfieldB_44_0_0_true) (by kernel_rfl) (by kernel_rfl) (by kernel_rfl) rfl (.inr (fun _ s => s)) ?_
  refine TA.take 3 rfl rfl rfl rfl (StepS.ldB rfl (Ent.at 0 rfl) kscalB_3_true rfl) (by kernel_rfl) (by kernel_rfl) (by kernel_rfl) (by kernel_rfl) (by kernel_rfl) (fun _ s => s) ?_
  refine TA.takeW 5 rfl rfl rfl rfl (StepS.fld rfl kfieldB_44_1_1_true) (by kernel_rfl) (by kernel_rfl) (by kernel_rfl) rfl (.inr (fun _ s => s)) ?_
  obtain ⟨lq3_6_1, hzq3_6_2, hm⟩ := bind_some hm
  refine TA.take 6 rfl rfl rfl rfl (StepS.ldB rfl (Ent.at 1 rfl) kscalB_37_true rfl) (by kernel_rfl) (by kernel_rfl) (by kernel_rfl) (by kernel_rfl) (by kernel_rfl) (fun _ s => s) ?_
  refine TA.takeW 7 rfl rfl rfl rfl (StepS.fld rfl kfieldB_44_1_1_true) (by kernel_rfl) (by kernel_rfl) (by kernel_rfl) rfl (.inr (fun _ s => s)) ?_
  obtain ⟨lq3_8_1, hzq3_8_2, hm⟩ := bind_some hm
  refine TA.take 8 rfl rfl rfl rfl (StepS.ldB rfl (Ent.at 0 rfl) kscalB_37_true rfl) (by kernel_rfl) (by kernel_rfl) (by kernel_rfl) (by kernel_rfl) (by kernel_rfl) (fun _ s => s) ?_
  refine TA.all1 (i := 4) (by kernel_rfl) ?_
  refine TB.of rfl ?_
  obtain ⟨rq3_4_1, hcq3_4_2, hm⟩ := bind_some hm
  refine TO.q rfl rfl rfl (StepQ.call kcallB_14_true rfl rfl (fun _ st => C14  hcq3_4_2 st)) ?_
  refine TA.back (.inr (fun _ s => s)) ?_
  refine TA.asL (L' := (Bx b2 44 [I a1.1, zv zs a1.2] :: Bx b1 44 [I a0.1, zv zs a0.2] :: L)) (listed' := #[true, true, true, true, true, true, true, true, true, false, false, false, false]) (by kernel_rfl) (by kernel_rfl) ?_
  refine TA.all1 (i := 9) (by kernel_rfl) ?_
  refine TB.of rfl ?_
  obtain ⟨rq3_9_1, hcq3_9_2, hm⟩ := bind_some hm
  refine TO.q rfl rfl rfl (StepQ.call kcallB_15_true rfl rfl (fun _ st => C15 (PZ.rd ez.tl.tl hzq3_6_2) (PZ.rd ez.tl.tl hzq3_8_2) hcq3_9_2 st)) ?_
  refine TA.back (.inr (fun _ s => s)) ?_
  refine TA.asL (L' := (Bx b2 44 [I a1.1, zv zs a1.2] :: Bx b1 44 [I a0.1, zv zs a0.2] :: L)) (listed' := #[true, true, true, true, true, true, true, true, true, true, false, false, false]) (by kernel_rfl) (by kernel_rfl) ?_
  refine TA.all1 (i := 10) (by kernel_rfl) ?_
  refine TB.of rfl ?_
  refine TO.litS (f := cI) ([rq3_4_1, rq3_9_1] : List Int) kelemB_37_3_1_8_true kinfo_3_bind_zero_some_I_0 rfl rfl (fun _ => rfl) rfl rfl (by kernel_rfl) rfl fun vq3_10_1 => ?_
  refine TA.back (.inr (fun _ s => Sat.by [2, 2] 2 1 (by kernel_rfl) s)) ?_
  refine TA.asL (L' := (OwnS 3 1 vq3_10_1 (([rq3_4_1, rq3_9_1] : List Int).map cI) :: Bx b2 44 [I a1.1, zv zs a1.2] :: Bx b1 44 [I a0.1, zv zs a0.2] :: L)) (listed' := #[true, true, true, true, true, true, true, true, true, true, true, false, false]) (by kernel_rfl) (by kernel_rfl) ?_
  refine TA.all1 (i := 11) (by kernel_rfl) ?_
  refine TB.of rfl ?_
  obtain ⟨rq3_11_1, hcq3_11_2, hm⟩ := bind_some hm
  refine TO.q rfl rfl rfl (StepQ.call kcallB_13_true rfl rfl (fun _ st => C13 (OwnS.rd (Ent.at 0 rfl)) hcq3_11_2 st)) ?_
  refine TA.back (.inr (fun _ s => Sat.by [2, 2] 2 1 (by kernel_rfl) s)) ?_
  refine TA.asL (L' := (OwnS 3 1 vq3_10_1 (([rq3_4_1, rq3_9_1] : List Int).map cI) :: Bx b2 44 [I a1.1, zv zs a1.2] :: Bx b1 44 [I a0.1, zv zs a0.2] :: L)) (listed' := #[true, true, true, true, true, true, true, true, true, true, true, true, false]) (by kernel_rfl) (by kernel_rfl) ?_
  refine TA.takeW 12 rfl rfl rfl rfl (StepS.assign rfl) (by kernel_rfl) (by kernel_rfl) (by kernel_rfl) rfl (.inr (fun _ s => Sat.by [2, 2] 2 1 (by kernel_rfl) s)) ?_
  refine TA.code (by kernel_rfl) ?_
  cases hm
  refine TC.ret fun a w e s => ?_
  refine FRet.mk1 (P := Try.prog) (fn := Try.f12) (t := 4) e rfl rfl ?_
  exact ⟨rfl, s.mono fun _ => Sat.dropN 3⟩

set_option maxRecDepth 100000 in
theorem C17 {B : World} {L : List HP} {a0 : Int × Nat} {a1 : Int × Nat} {zp : List (List Int)} {z0 zs : List ZH} {r0 : Bool} (ez : Ent L (PZ 3 1 cI z0 zs zp)) (hm : F17 a0 a1 zp = some r0) {w : World} (st : St B L w) : Calls Try.prog 17 #[.agg ((cZ44 zs) a0).toArray, .agg ((cZ44 zs) a1).toArray] w (fun e w' => (e = .returned (.bool r0) ∧ St B (L) w')) := by
  refine calls_of (N := 45) (L := L) (args := [.agg ((cZ44 zs) a0).toArray, .agg ((cZ44 zs) a1).toArray]) Try.func17 rfl rfl rfl ?_ st
  dsimp only [F17] at hm
  refine TC.k ?_
  refine TC.region ?_
  refine TO.box (cs := [I a0.1, zv zs a0.2]) rfl rfl rfl fun b1 => ?_
  refine TO.box (cs := [I a1.1, zv zs a1.2]) rfl rfl rfl fun b2 => ?_
  refine TO.s rfl rfl rfl (StepS.assign rfl) ?_
  refine TO.code ?_
  refine TC.k ?_
  refine TC.k ?_
  refine TC.region ?_
  refine TO.s rfl rfl rfl (StepS.fld rfl kfieldB_44_0_0_true) ?_
  refine TO.s rfl rfl rfl (StepS.ldB rfl (Ent.at 1 rfl) kscalB_3_true rfl) ?_
  refine TO.s rfl rfl rfl (StepS.fld rfl kfieldB_44_0_0_true) ?_
  refine TO.s rfl rfl rfl (StepS.ldB rfl (Ent.at 0 rfl) kscalB_3_true rfl) ?_
  refine TO.s rfl rfl rfl (StepS.cmp rfl rfl rfl) ?_
  refine TO.code ?_
  refine TC.cond rfl (fun hc3 => ?_) (fun hc3 => ?_)
  · replace hm := cond_t hc3 hm
    refine TC.k ?_
    refine TC.region ?_
    refine TO.s rfl rfl rfl (StepS.fld rfl kfieldB_44_0_0_true) ?_
    refine TO.s rfl rfl rfl (StepS.ldB rfl (Ent.at 1 rfl) kscalB_3_true rfl) ?_
    refine TO.s rfl rfl rfl (StepS.fld rfl kfieldB_44_0_0_true) ?_
    refine TO.s rfl rfl rfl (StepS.ldB rfl (Ent.at 0 rfl) kscalB_3_true rfl) ?_
    refine TO.s rfl rfl rfl (StepS.cmp rfl rfl rfl) ?_
    refine TO.s rfl rfl rfl (StepS.assign rfl) ?_
    refine TO.code ?_
    cases hm
    refine TC.ret fun a w e s => ?_
    refine FRet.mk1 (P := Try.prog) (fn := Try.f17) (t := 4) e rfl rfl ?_
    exact ⟨rfl, s.mono fun _ => Sat.dropN 2⟩
  · replace hm := cond_f hc3 hm
    refine TC.skipk ?_
    refine TC.k ?_
    refine TC.k ?_
    refine TC.region ?_
    refine TO.s rfl rfl rfl (StepS.assign rfl) ?_
    refine TO.code ?_
    obtain ⟨o6, hw7, hm⟩ := bind_some hm
    refine TC.loop hw7 (fun x4 => fun a w => Mid 45 B [(2, .pointer (some ⟨b1, 0, none⟩)), (3, .pointer (some ⟨b2, 0, none⟩)), (5, I x4)] (Bx b2 44 [I a1.1, zv zs a1.2] :: Bx b1 44 [I a0.1, zv zs a0.2] :: L) a w) (fun _ => fun a w => Mid 45 B [] (Bx b2 44 [I a1.1, zv zs a1.2] :: Bx b1 44 [I a0.1, zv zs a0.2] :: L) a w) (fun r0 => FRet Try.prog Try.f17 (fun e w' => (e = .returned (.bool r0) ∧ St B (L) w'))) ?_ ?_ ?_ ?_
    · rintro x4 o6r hb8 a w ⟨he, hs⟩
      dsimp only [F17_L0] at hb8
      refine TC.use ?_ he hs
      refine TC.k ?_
      refine TC.k ?_
      refine TC.region ?_
      refine TO.s rfl rfl rfl (StepS.move rfl) ?_
      refine TO.s rfl rfl rfl (StepS.fld rfl kfieldB_44_1_1_true) ?_
      obtain ⟨l9, hz10, hb8⟩ := bind_some hb8
      refine TO.s rfl rfl rfl (StepS.ldB rfl (Ent.at 1 rfl) kscalB_37_true rfl) ?_
      refine TO.s rfl rfl rfl (StepS.lenm rfl (PZ.rd ez.tl.tl hz10) ksliceB_37_3_1_true rfl) ?_
      refine TO.s rfl rfl rfl (StepS.cmp rfl rfl rfl) ?_
      refine TO.code ?_
      refine TC.cond rfl (fun hc11 => ?_) (fun hc11 => ?_)
      · replace hb8 := cond_t hc11 hb8
        refine TC.skipk ?_
        refine TC.k ?_
        refine TC.block ?_
        refine TC.k ?_
        refine TC.region_still kfollows_mixedOrders_true (by kernel_rfl) ?_
        refine TS.s rfl rfl rfl (StepS.fld rfl kfieldB_44_1_1_true) ?_
        obtain ⟨l12, hz13, hb8⟩ := bind_some hb8
        refine TS.s rfl rfl rfl (StepS.ldB rfl (Ent.at 1 rfl) kscalB_37_true rfl) ?_
        refine TS.s rfl rfl rfl (StepS.move rfl) ?_
        obtain ⟨x14, hx15, hb8⟩ := bind_some hb8
        refine TS.s rfl rfl rfl (StepS.idx rfl rfl (PZ.rd ez.tl.tl hz13) ksliceB_37_3_1_true (idx_spec hx15).1 (idxm_lt hx15)) ?_
        refine TS.s rfl rfl rfl (StepS.ld0 rfl (PZ.rd ez.tl.tl hz13) kscalB_3_true rfl (idxm hx15) rfl) ?_
        refine TS.s rfl rfl rfl (StepS.fld rfl kfieldB_44_1_1_true) ?_
        obtain ⟨l16, hz17, hb8⟩ := bind_some hb8
        refine TS.s rfl rfl rfl (StepS.ldB rfl (Ent.at 0 rfl) kscalB_37_true rfl) ?_
        refine TS.s rfl rfl rfl (StepS.move rfl) ?_
        obtain ⟨x18, hx19, hb8⟩ := bind_some hb8
        refine TS.s rfl rfl rfl (StepS.idx rfl rfl (PZ.rd ez.tl.tl hz17) ksliceB_37_3_1_true (idx_spec hx19).1 (idxm_lt hx19)) ?_
        refine TS.s rfl rfl rfl (StepS.ld0 rfl (PZ.rd ez.tl.tl hz17) kscalB_3_true rfl (idxm hx19) rfl) ?_
        refine TS.s rfl rfl rfl (StepS.cmp rfl rfl rfl) ?_
        refine TS.code ?_
        refine TC.cond rfl (fun hc20 => ?_) (fun hc20 => ?_)
        · replace hb8 := cond_t hc20 hb8
          refine TC.k ?_
          refine TC.region_still kfollows_mixedOrders_true (by kernel_rfl) ?_
          refine TS.s rfl rfl rfl (StepS.fld rfl kfieldB_44_1_1_true) ?_
          obtain ⟨l21, hz22, hb8⟩ := bind_some hb8
          refine TS.s rfl rfl rfl (StepS.ldB rfl (Ent.at 1 rfl) kscalB_37_true rfl) ?_
          refine TS.s rfl rfl rfl (StepS.move rfl) ?_
          obtain ⟨x23, hx24, hb8⟩ := bind_some hb8
          refine TS.s rfl rfl rfl (StepS.idx rfl rfl (PZ.rd ez.tl.tl hz22) ksliceB_37_3_1_true (idx_spec hx24).1 (idxm_lt hx24)) ?_
          refine TS.s rfl rfl rfl (StepS.ld0 rfl (PZ.rd ez.tl.tl hz22) kscalB_3_true rfl (idxm hx24) rfl) ?_
          refine TS.s rfl rfl rfl (StepS.fld rfl kfieldB_44_1_1_true) ?_
          obtain ⟨l25, hz26, hb8⟩ := bind_some hb8
          refine TS.s rfl rfl rfl (StepS.ldB rfl (Ent.at 0 rfl) kscalB_37_true rfl) ?_
          refine TS.s rfl rfl rfl (StepS.move rfl) ?_
          obtain ⟨x27, hx28, hb8⟩ := bind_some hb8
          refine TS.s rfl rfl rfl (StepS.idx rfl rfl (PZ.rd ez.tl.tl hz26) ksliceB_37_3_1_true (idx_spec hx28).1 (idxm_lt hx28)) ?_
          refine TS.s rfl rfl rfl (StepS.ld0 rfl (PZ.rd ez.tl.tl hz26) kscalB_3_true rfl (idxm hx28) rfl) ?_
          refine TS.s rfl rfl rfl (StepS.cmp rfl rfl rfl) ?_
          refine TS.s rfl rfl rfl (StepS.assign rfl) ?_
          refine TS.code ?_
          cases hb8
          refine TC.ret fun a w e s => ?_
          refine FRet.mk1 (P := Try.prog) (fn := Try.f17) (t := 4) e rfl rfl ?_
          exact ⟨rfl, s.mono fun _ => Sat.dropN 2⟩
        · replace hb8 := cond_f hc20 hb8
          refine TC.skipk ?_
          refine TC.region ?_
          refine TO.s rfl rfl rfl (StepS.move rfl) ?_
          refine TO.s rfl rfl rfl (StepS.ari rfl rfl rfl) ?_
          refine TO.s rfl rfl rfl (StepS.assign rfl) ?_
          cases hb8
          refine TO.nil fun a w e s => ?_
          exact ⟨e.sub (lk_of_allIn ⟨rfl, rfl, rfl, trivial⟩), s⟩
      · replace hb8 := cond_f hc11 hb8
        cases hb8
        refine TC.exit rfl fun a w e s => ?_
        exact ⟨e.sub (lk_of_allIn trivial), s⟩
    · exact fun a w e s => ⟨e.sub (lk_of_allIn ⟨rfl, rfl, rfl, trivial⟩), s⟩
    · rintro _ rfl a w ⟨he, hs⟩
      dsimp only [Ctl.on] at hm
      refine TC.use ?_ he hs
      refine TC.k ?_
      refine TC.region ?_
      refine TO.s rfl rfl rfl (StepS.assign rfl) ?_
      refine TO.code ?_
      cases hm
      refine TC.ret fun a w e s => ?_
      refine FRet.mk1 (P := Try.prog) (fn := Try.f17) (t := 4) e rfl rfl ?_
      exact ⟨rfl, s.mono fun _ => Sat.dropN 2⟩
    · rintro r rfl
      cases hm
      exact fun a w h => h

set_option maxRecDepth 100000 in
theorem C19 {B : World} {L : List HP} {a0 : Int} {a1_0 : Nat} {b1_ : Nat} {c1_ : Nat} {h1_0 : Value} {u1_1_0 : Value} {r0 : Bool} (g1 : Ent L (Bx b1_ 36 [.pointer (some ⟨c1_, 0, none⟩)])) (gg1 : Ent L (Bx c1_ 39 [h1_0, u1_1_0])) (e1_0 : Ent L (Hd h1_0 a1_0)) (hm : F19 a0 a1_0 = some r0) {w : World} (st : St B L w) : Calls Try.prog 19 #[I a0, .pointer (some ⟨b1_, 0, none⟩)] w (fun e w' => (e = .returned (.bool r0) ∧ St B (L) w')) := by
  refine calls_of (N := 15) (L := L) (args := [I a0, .pointer (some ⟨b1_, 0, none⟩)]) Try.func19 rfl rfl rfl ?_ st
  dsimp only [F19] at hm
  refine TC.k ?_
  refine TC.region ?_
  refine TO.s rfl rfl rfl (StepS.assign rfl) ?_
  refine TO.code ?_
  refine TC.k ?_
  refine TC.region ?_
  refine TO.s rfl rfl rfl (StepS.move rfl) ?_
  refine TO.s rfl rfl rfl (StepS.cmp rfl rfl rfl) ?_
  refine TO.s rfl rfl rfl (StepS.move rfl) ?_
  refine TO.mid1 8 14 (.bool ((decide (a0 < 0)) || (decide (a0 ≥ (a1_0 : Int))))) ?_ ?_
  · refine bcase ((decide (a0 < 0))) (fun hb1 => ?_) (fun hb1 => ?_)
    · refine TO.skip rfl rfl rfl (skipT hb1) rfl rfl ?_
      refine TO.skip rfl rfl rfl (skipT hb1) rfl rfl ?_
      refine TO.skip rfl rfl rfl (skipT hb1) rfl rfl ?_
      refine TO.skip rfl rfl rfl (skipT hb1) rfl rfl ?_
      refine TO.skip rfl rfl rfl (skipT hb1) rfl rfl ?_
      refine TO.skip rfl rfl rfl (skipT hb1) rfl rfl ?_
      refine TO.skip rfl rfl rfl (skipT hb1) rfl rfl ?_
      refine TO.s rfl rfl rfl (StepS.pickT rfl hb1 rfl) ?_
      exact TO.up1 8 0 rfl rfl (by rw [hb1]; rfl) rfl
    · refine TO.sw rfl rfl rfl hb1 rfl rfl (StepS.move rfl) ?_
      refine TO.sw rfl rfl rfl hb1 rfl rfl (StepS.ldB rfl g1 kscalB_36_true rfl) ?_
      refine TO.sw rfl rfl rfl hb1 rfl rfl (StepS.nilc rfl) ?_
      refine TO.sw rfl rfl rfl hb1 rfl rfl (StepS.fld rfl kfieldB_39_0_0_true) ?_
      refine TO.sw rfl rfl rfl hb1 rfl rfl (StepS.ldB rfl gg1 kscalB_24_true rfl) ?_
      refine TO.sw rfl rfl rfl hb1 rfl rfl (StepS.lenHd rfl e1_0 ksliceB_24_34_1_true rfl) ?_
      refine TO.sw rfl rfl rfl hb1 rfl rfl (StepS.cmp rfl rfl rfl) ?_
      refine TO.s rfl rfl rfl (StepS.pickF rfl hb1 rfl) ?_
      exact TO.up1 8 0 rfl rfl (by rw [hb1]; rfl) rfl
  refine TO.s rfl rfl rfl (StepS.assign rfl) ?_
  refine TO.code ?_
  cases hm
  refine TC.ret fun a w e s => ?_
  refine FRet.mk1 (P := Try.prog) (fn := Try.f19) (t := 3) e rfl rfl ?_
  exact ⟨rfl, s.mono fun _ => Sat.dropN 0⟩

set_option maxRecDepth 100000 in
theorem C21 {B : World} {L : List HP} {a0 : (List (List (Int × Nat))) × List Int} {a1 : Int} {a2 : Int} {zp : List (List Int)} {b0_ : Nat} {h0_1 : Value} {h0_2 : List Value} {h0_3 : Value} {z0 zs : List ZH} {s0 : (List (List (Int × Nat))) × List Int} {s1 : List (List Int)} (hm : F21 a0 a1 a2 zp = some (s0, s1)) {w : World} (st : St B (Bx b0_ 39 [h0_1, h0_3] :: SS 34 44 2 (cZ44 zs) h0_1 h0_2 (a0.1) :: OwnS 3 1 h0_3 (a0.2.map cI) :: PZ 3 1 cI z0 zs zp :: L) w) : Calls Try.prog 21 #[.pointer (some ⟨b0_, 0, none⟩), I a1, I a2] w (fun e w' => ∃ v M, e = .returned v ∧ (∃ (qhs1 : List Value) (zs : List ZH), v = .tuple #[] ∧ M = (Bx b0_ 39 [h0_1, h0_3] :: SS 34 44 2 (cZ44 zs) h0_1 qhs1 (s0.1) :: OwnS 3 1 h0_3 (s0.2.map cI) :: PZ 3 1 cI z0 zs s1 :: L)) ∧ St B M w') := by
  refine calls_of (N := 77) (L := (Bx b0_ 39 [h0_1, h0_3] :: SS 34 44 2 (cZ44 zs) h0_1 h0_2 (a0.1) :: OwnS 3 1 h0_3 (a0.2.map cI) :: PZ 3 1 cI z0 zs zp :: L)) (args := [.pointer (some ⟨b0_, 0, none⟩), I a1, I a2]) Try.func21 rfl rfl rfl ?_ st
  dsimp only [F21] at hm
  refine TC.k ?_
  refine TC.region ?_
  refine TO.s rfl rfl rfl (StepS.move rfl) ?_
  refine TO.s rfl rfl rfl (StepS.nilc rfl) ?_
  refine TO.s rfl rfl rfl (StepS.fld rfl kfieldB_39_0_0_true) ?_
  refine TO.s rfl rfl rfl (StepS.ldB rfl (Ent.at 0 rfl) kscalB_24_true rfl) ?_
  refine TO.s rfl rfl rfl (StepS.lenRR rfl (SS.rr (Ent.at 1 rfl)) ksliceB_24_34_1_true rfl) ?_
  obtain ⟨y5, hk6, hm⟩ := bind_some hm
  refine TO.mkS (f := cI) (za := 0) kelemB_37_3_1_8_true kinfo_3_bind_zero_some_I_0 rfl (by decide) rfl rfl hk6 rfl fun v7 => ?_
  refine TO.s rfl rfl rfl (StepS.assign rfl) ?_
  refine TO.code ?_
  refine TC.k ?_
  refine TC.k ?_
  refine TC.region ?_
  refine TO.s rfl rfl rfl (StepS.move rfl) ?_
  refine TO.s rfl rfl rfl (StepS.nilc rfl) ?_
  refine TO.s rfl rfl rfl (StepS.fld rfl kfieldB_39_0_0_true) ?_
  refine TO.s rfl rfl rfl (StepS.ldB rfl (Ent.at 1 rfl) kscalB_24_true rfl) ?_
  refine TO.s rfl rfl rfl (StepS.move rfl) ?_
  obtain ⟨x9, hx10, hm⟩ := bind_some hm
  refine TO.s rfl rfl rfl (StepS.idxRR rfl rfl (SS.rr (Ent.at 2 rfl)) ksliceB_24_34_1_true hx10) ?_
  refine TO.s rfl rfl rfl (StepS.ldRR rfl (SS.rr (Ent.at 2 rfl)) kscalB_34_true hx10) ?_
  refine TO.s rfl rfl rfl (StepS.lenm rfl (RR.row (SS.rr (Ent.at 2 rfl)) hx10) ksliceB_34_44_2_true rfl) ?_
  refine TO.s rfl rfl rfl (StepS.move rfl) ?_
  refine TO.code ?_
  obtain ⟨o17, hw18, hm⟩ := bind_some hm
  refine TC.loop hw18 (fun (y12, x13) => fun a w => Mid 77 B [(0, .pointer (some ⟨b0_, 0, none⟩)), (1, I a1), (2, I a2), (6, v7), (23, (rowv h0_2 a1.toNat)), (24, I (x9.length : Int)), (25, I x13)] (OwnS 3 1 v7 (y12.map cI) :: Bx b0_ 39 [h0_1, h0_3] :: SS 34 44 2 (cZ44 zs) h0_1 h0_2 (a0.1) :: OwnS 3 1 h0_3 (a0.2.map cI) :: PZ 3 1 cI z0 zs zp :: L) a w) (fun y16 => fun a w => Mid 77 B [(0, .pointer (some ⟨b0_, 0, none⟩)), (1, I a1), (2, I a2), (6, v7)] (OwnS 3 1 v7 (y16.map cI) :: Bx b0_ 39 [h0_1, h0_3] :: SS 34 44 2 (cZ44 zs) h0_1 h0_2 (a0.1) :: OwnS 3 1 h0_3 (a0.2.map cI) :: PZ 3 1 cI z0 zs zp :: L) a w) (fun (_ : Unit) _ _ => False) ?_ ?_ ?_ ?_
  · rintro ⟨y12, x13⟩ o17r hb19 a w ⟨he, hs⟩
    dsimp only [F21_L0] at hb19
    refine TC.use ?_ he hs
    refine TC.k ?_
    refine TC.region ?_
    refine TO.s rfl rfl rfl (StepS.cmp rfl rfl rfl) ?_
    refine TO.code ?_
    refine TC.k ?_
    refine TC.cond rfl (fun hc20 => ?_) (fun hc20 => ?_)
    · replace hb19 := cond_t hc20 hb19
      refine TC.skipk ?_
      refine TC.k ?_
      refine TC.block ?_
      refine TC.k ?_
      refine TC.region ?_
      obtain ⟨x21, hx22, hb19⟩ := bind_some hb19
      refine TO.s rfl rfl rfl (StepS.idx rfl rfl (RR.row (SS.rr (Ent.at 2 rfl)) hx10) ksliceB_34_44_2_true (idx_spec hx22).1 (idxm_lt hx22)) ?_
      refine TO.s rfl rfl rfl (StepS.ldE rfl (RR.row (SS.rr (Ent.at 2 rfl)) hx10) kaggB_44_2_true rfl (idxm hx22)) ?_
      refine TO.alloc kinfo_44_bind_zero_some_agg_I_0_slice_none_0_0 rfl rfl fun b23 => ?_
      refine TO.stB (us := [I x21.1, zv zs x21.2]) 0 [I x21.1, zv zs x21.2] rfl rfl rfl ksizeB_44_2_true rfl rfl rfl (by simp [Value.oneCell']) rfl ?_
      refine TO.code ?_
      refine TC.k ?_
      refine TC.region ?_
      refine TO.s rfl rfl rfl (StepS.fld rfl kfieldB_44_1_1_true) ?_
      obtain ⟨l24, hz25, hb19⟩ := bind_some hb19
      refine TO.s rfl rfl rfl (StepS.ldB rfl (Ent.at 0 rfl) kscalB_37_true rfl) ?_
      refine TO.s rfl rfl rfl (StepS.lenm rfl (PZ.rd (Ent.at 5 rfl) hz25) ksliceB_37_3_1_true rfl) ?_
      refine TO.s rfl rfl rfl (StepS.move rfl) ?_
      refine TO.code ?_
      obtain ⟨o31, hw32, hb19⟩ := bind_some hb19
      refine TC.loop hw32 (fun (y26, x27) => fun a w => Mid 77 B [(0, .pointer (some ⟨b0_, 0, none⟩)), (1, I a1), (2, I a2), (6, v7), (23, (rowv h0_2 a1.toNat)), (24, I (x9.length : Int)), (25, I x13), (30, (zv zs x21.2)), (31, I (l24.length : Int)), (32, I x27)] (Bx b23 44 [I x21.1, zv zs x21.2] :: OwnS 3 1 v7 (y26.map cI) :: Bx b0_ 39 [h0_1, h0_3] :: SS 34 44 2 (cZ44 zs) h0_1 h0_2 (a0.1) :: OwnS 3 1 h0_3 (a0.2.map cI) :: PZ 3 1 cI z0 zs zp :: L) a w) (fun y30 => fun a w => Mid 77 B [(0, .pointer (some ⟨b0_, 0, none⟩)), (1, I a1), (2, I a2), (6, v7), (23, (rowv h0_2 a1.toNat)), (24, I (x9.length : Int)), (25, I x13)] (Bx b23 44 [I x21.1, zv zs x21.2] :: OwnS 3 1 v7 (y30.map cI) :: Bx b0_ 39 [h0_1, h0_3] :: SS 34 44 2 (cZ44 zs) h0_1 h0_2 (a0.1) :: OwnS 3 1 h0_3 (a0.2.map cI) :: PZ 3 1 cI z0 zs zp :: L) a w) (fun (_ : Unit) _ _ => False) ?_ ?_ ?_ ?_
      · rintro ⟨y26, x27⟩ o31r hb33 a w ⟨he, hs⟩
        dsimp only [F21_L1] at hb33
        refine TC.use ?_ he hs
        refine TC.k ?_
        refine TC.region ?_
        refine TO.s rfl rfl rfl (StepS.cmp rfl rfl rfl) ?_
        refine TO.code ?_
        refine TC.k ?_
        refine TC.cond rfl (fun hc34 => ?_) (fun hc34 => ?_)
        · replace hb33 := cond_t hc34 hb33
          refine TC.skipk ?_
          refine TC.k ?_
          refine TC.block ?_
          refine TC.k ?_
          refine TC.region ?_
          refine TO.s rfl rfl rfl (StepS.move rfl) ?_
          obtain ⟨x35, hx36, hb33⟩ := bind_some hb33
          refine TO.s rfl rfl rfl (StepS.idx rfl rfl (PZ.rd (Ent.at 5 rfl) hz25) ksliceB_37_3_1_true (idx_spec hx36).1 (idxm_lt hx36)) ?_
          refine TO.s rfl rfl rfl (StepS.ld0 rfl (PZ.rd (Ent.at 5 rfl) hz25) kscalB_3_true rfl (idxm hx36) rfl) ?_
          refine TO.s rfl rfl rfl (StepS.assign rfl) ?_
          refine TO.s rfl rfl rfl (StepS.assign rfl) ?_
          refine TO.code ?_
          refine TC.region ?_
          refine TO.s rfl rfl rfl (StepS.move rfl) ?_
          refine TO.s rfl rfl rfl (StepS.move rfl) ?_
          refine TO.s rfl rfl rfl (StepS.move rfl) ?_
          refine TO.s rfl rfl rfl (StepS.move rfl) ?_
          obtain ⟨x37, hx38, hb33⟩ := bind_some hb33
          refine TO.s rfl rfl rfl (StepS.idx rfl rfl (OwnS.rd (Ent.at 1 rfl)) ksliceB_37_3_1_true (idx_spec hx38).1 (idxm_lt hx38)) ?_
          refine TO.s rfl rfl rfl (StepS.ld0 rfl (OwnS.rd (Ent.at 1 rfl)) kscalB_3_true rfl (idxm hx38) rfl) ?_
          refine TO.s rfl rfl rfl (StepS.move rfl) ?_
          refine TO.s rfl rfl rfl (StepS.max2 rfl rfl) ?_
          obtain ⟨x39, hx40, hb33⟩ := bind_some hb33
          refine TO.s rfl rfl rfl (StepS.idx rfl rfl (OwnS.rd (Ent.at 1 rfl)) ksliceB_37_3_1_true (idx_spec hx40).1 (idxm_lt hx40)) ?_
          refine TO.stO (i := x27.toNat) (off := 0) (us := [I (mx x37 x35)]) 1 (mx x37 x35) rfl rfl rfl ksizeB_3_1_true rfl rfl rfl (idx_spec hx40).2 rfl (by simp [Value.oneCell']) rfl ?_
          refine TO.code ?_
          refine TC.region ?_
          refine TO.s rfl rfl rfl (StepS.ari rfl rfl rfl) ?_
          refine TO.s rfl rfl rfl (StepS.move rfl) ?_
          cases hb33
          refine TO.nil fun a w e s => ?_
          exact ⟨e.sub (lk_of_allIn ⟨rfl, rfl, rfl, rfl, rfl, rfl, rfl, rfl, rfl, rfl, trivial⟩), s⟩
        · replace hb33 := cond_f hc34 hb33
          cases hb33
          refine TC.exit rfl fun a w e s => ?_
          exact ⟨e.sub (lk_of_allIn ⟨rfl, rfl, rfl, rfl, rfl, rfl, rfl, trivial⟩), s⟩
      · exact fun a w e s => ⟨e.sub (lk_of_allIn ⟨rfl, rfl, rfl, rfl, rfl, rfl, rfl, rfl, rfl, rfl, trivial⟩), s⟩
      · rintro y30 rfl a w ⟨he, hs⟩
        dsimp only [Ctl.on] at hb19
        refine TC.use ?_ he hs
        refine TC.region ?_
        refine TO.s rfl rfl rfl (StepS.ari rfl rfl rfl) ?_
        refine TO.s rfl rfl rfl (StepS.move rfl) ?_
        cases hb19
        refine TO.nil fun a w e s => ?_
        exact ⟨e.sub (lk_of_allIn ⟨rfl, rfl, rfl, rfl, rfl, rfl, rfl, trivial⟩), s.mono fun _ => Sat.dropN 1⟩
      · rintro r rfl
        exact fun a w h => h.elim
    · replace hb19 := cond_f hc20 hb19
      cases hb19
      refine TC.exit rfl fun a w e s => ?_
      exact ⟨e.sub (lk_of_allIn ⟨rfl, rfl, rfl, rfl, trivial⟩), s⟩
  · exact fun a w e s => ⟨e.sub (lk_of_allIn ⟨rfl, rfl, rfl, rfl, rfl, rfl, rfl, trivial⟩), s⟩
  · rintro y16 rfl a w ⟨he, hs⟩
    dsimp only [Ctl.on] at hm
    refine TC.use ?_ he hs
    refine TC.k ?_
    refine TC.region ?_
    refine TO.s rfl rfl rfl (StepS.move rfl) ?_
    refine TO.s rfl rfl rfl (StepS.nilc rfl) ?_
    refine TO.s rfl rfl rfl (StepS.fld rfl kfieldB_39_1_1_true) ?_
    refine TO.s rfl rfl rfl (StepS.ldB rfl (Ent.at 1 rfl) kscalB_37_true rfl) ?_
    refine TO.s rfl rfl rfl (StepS.move rfl) ?_
    obtain ⟨x41, hx42, hm⟩ := bind_some hm
    refine TO.s rfl rfl rfl (StepS.idx rfl rfl (OwnS.rd (Ent.at 3 rfl)) ksliceB_37_3_1_true (idx_spec hx42).1 (idxm_lt hx42)) ?_
    refine TO.s rfl rfl rfl (StepS.ld0 rfl (OwnS.rd (Ent.at 3 rfl)) kscalB_3_true rfl (idxm hx42) rfl) ?_
    refine TO.s rfl rfl rfl (StepS.ari rfl rfl rfl) ?_
    obtain ⟨x43, hx44, hm⟩ := bind_some hm
    refine TO.s rfl rfl rfl (StepS.idx rfl rfl (OwnS.rd (Ent.at 3 rfl)) ksliceB_37_3_1_true (idx_spec hx44).1 (idxm_lt hx44)) ?_
    refine TO.stO (i := a1.toNat) (off := 0) (us := [I (w64 (x41 + 1))]) 3 (w64 (x41 + 1)) rfl rfl rfl ksizeB_3_1_true rfl rfl rfl (idx_spec hx44).2 rfl (by simp [Value.oneCell']) rfl ?_
    refine TO.code ?_
    refine TC.k ?_
    refine TC.region ?_
    refine TO.s rfl rfl rfl (StepS.move rfl) ?_
    refine TO.s rfl rfl rfl (StepS.move rfl) ?_
    refine TO.s rfl rfl rfl (StepS.move rfl) ?_
    refine TO.s rfl rfl rfl (StepS.nilc rfl) ?_
    refine TO.s rfl rfl rfl (StepS.fld rfl kfieldB_39_1_1_true) ?_
    refine TO.s rfl rfl rfl (StepS.ldB rfl (Ent.at 1 rfl) kscalB_37_true rfl) ?_
    refine TO.s rfl rfl rfl (StepS.move rfl) ?_
    obtain ⟨x45, hx46, hm⟩ := bind_some hm
    refine TO.s rfl rfl rfl (StepS.idx rfl rfl (OwnS.rd (Ent.at 3 rfl)) ksliceB_37_3_1_true (idx_spec hx46).1 (idxm_lt hx46)) ?_
    refine TO.s rfl rfl rfl (StepS.ld0 rfl (OwnS.rd (Ent.at 3 rfl)) kscalB_3_true rfl (idxm hx46) rfl) ?_
    obtain ⟨x47, hx48, hm⟩ := bind_some hm
    refine TO.s rfl rfl rfl (StepS.idx rfl rfl (OwnS.rd (Ent.at 0 rfl)) ksliceB_37_3_1_true (idx_spec hx48).1 (idxm_lt hx48)) ?_
    refine TO.stO (i := a1.toNat) (off := 0) (us := [I x45]) 0 x45 rfl rfl rfl ksizeB_3_1_true rfl rfl rfl (idx_spec hx48).2 rfl (by simp [Value.oneCell']) rfl ?_
    refine TO.code ?_
    refine TC.region ?_
    refine TO.s rfl rfl rfl (StepS.move rfl) ?_
    refine TO.s rfl rfl rfl (StepS.nilc rfl) ?_
    refine TO.s rfl rfl rfl (StepS.fld rfl kfieldB_39_0_0_true) ?_
    refine TO.s rfl rfl rfl (StepS.ldB rfl (Ent.at 1 rfl) kscalB_24_true rfl) ?_
    refine TO.s rfl rfl rfl (StepS.move rfl) ?_
    refine TO.s rfl rfl rfl (StepS.move rfl) ?_
    refine TO.s rfl rfl rfl (StepS.move rfl) ?_
    obtain ⟨_, hk49, hm⟩ := bind_some hm
    refine TO.pure (φ := zs.length = (zp).length) (fun _ s => (PZ.pure (Ent.at 4 rfl) s).1) fun hz50 => ?_
    refine TO.pure (φ := ∃ q, v7 = sv q) (fun _ s => OwnS.isS (Ent.at 0 rfl) s) fun hq51 => ?_
    obtain ⟨hq51, rfl⟩ := hq51
    rw [show SS 34 44 2 (cZ44 zs) h0_1 h0_2 (a0.1) = SS 34 44 2 (cZ44 (zs ++ [hq51])) h0_1 h0_2 (a0.1) from SS.zext hz50 hk49 (fun _ _ _ e => by simp only [cZ44, e])]
    refine TO.ghost (fun _ s => Sat.front 4 rfl s) ?_
    refine TO.ghost (fun _ s => Sat.front 1 rfl s) ?_
    refine TO.ghost (fun _ s => Sat.freezeZ s) ?_
    try rw [zv_new (h := hq51) hz50]
    generalize zs ++ [hq51] = zs
    refine TO.s rfl rfl rfl (StepS.build (cs := [I a2, zv zs ((zp).length)]) rfl (by kernel_rfl)) ?_
    refine TO.litS (f := (cZ44 zs)) ([(a2, (zp).length)] : List (Int × Nat)) kelemB_34_44_2_32_true kinfo_44_bind_zero_some_agg_I_0_slice_none_0_0 rfl rfl (fun _ => rfl) rfl rfl (by kernel_rfl) rfl fun v52 => ?_
    obtain ⟨x54, hx55, hm⟩ := bind_some hm
    refine TO.s rfl rfl rfl (StepS.idxRR rfl rfl (SS.rr (Ent.at 3 rfl)) ksliceB_24_34_1_true hx55) ?_
    refine TO.ghost (fun _ s => Sat.front 3 rfl s) ?_
    refine TO.stRow (xs := ([(a2, (zp).length)] : List (Int × Nat))) rfl rfl hx55 ksizeB_34_1_true ?_
    cases hm
    refine TO.nil fun a w e s => ?_
    refine FRet.mk0 (P := Try.prog) (fn := Try.f21) e rfl ?_
    refine ⟨_, _, rfl, ⟨((h0_2.set a1.toNat v52)), zs, rfl, rfl⟩, ?_⟩
    refine s.mono fun _ s => ?_
    replace s := Sat.front 1 rfl s
    replace s := Sat.front 3 rfl s
    replace s := Sat.front 2 rfl s
    replace s := Sat.front 3 rfl s
    exact s
  · rintro r rfl
    exact fun a w h => h.elim

set_option maxRecDepth 100000 in
theorem C26 {B : World} {L : List HP} {a0 : List Int} {a1 : List Int} {h0 : Value} {h1 : Value} {r0 : Bool} (e0 : Ent L (Rd 1 h0 (a0.map cI))) (e1 : Ent L (Rd 1 h1 (a1.map cI))) (hm : F26 a0 a1 = some r0) {w : World} (st : St B L w) : Calls Try.prog 26 #[h0, h1] w (fun e w' => (e = .returned (.bool r0) ∧ St B (L) w')) := by
  refine calls_of (N := 21) (L := L) (args := [h0, h1]) Try.func26 rfl rfl rfl ?_ st
  dsimp only [F26] at hm
  refine TC.k ?_
  refine TC.region ?_
  refine TO.s rfl rfl rfl (StepS.assign rfl) ?_
  refine TO.code ?_
  refine TC.k ?_
  refine TC.k ?_
  refine TC.region ?_
  refine TO.s rfl rfl rfl (StepS.move rfl) ?_
  refine TO.s rfl rfl rfl (StepS.lenm rfl e0 ksliceB_37_3_1_true rfl) ?_
  refine TO.s rfl rfl rfl (StepS.move rfl) ?_
  refine TO.code ?_
  obtain ⟨o3, hw4, hm⟩ := bind_some hm
  refine TC.loop hw4 (fun x1 => fun a w => Mid 21 B [(1, h1), (7, h0), (8, I (a0.length : Int)), (9, I x1)] (L) a w) (fun _ => fun a w => Mid 21 B [] (L) a w) (fun r0 => FRet Try.prog Try.f26 (fun e w' => (e = .returned (.bool r0) ∧ St B (L) w'))) ?_ ?_ ?_ ?_
  · rintro x1 o3r hb5 a w ⟨he, hs⟩
    dsimp only [F26_L0] at hb5
    refine TC.use ?_ he hs
    refine TC.k ?_
    refine TC.region ?_
    refine TO.s rfl rfl rfl (StepS.cmp rfl rfl rfl) ?_
    refine TO.code ?_
    refine TC.k ?_
    refine TC.cond rfl (fun hc6 => ?_) (fun hc6 => ?_)
    · replace hb5 := cond_t hc6 hb5
      refine TC.skipk ?_
      refine TC.k ?_
      refine TC.block ?_
      refine TC.k ?_
      refine TC.region ?_
      refine TO.s rfl rfl rfl (StepS.move rfl) ?_
      obtain ⟨x7, hx8, hb5⟩ := bind_some hb5
      refine TO.s rfl rfl rfl (StepS.idx rfl rfl e0 ksliceB_37_3_1_true (idx_spec hx8).1 (idxm_lt hx8)) ?_
      refine TO.s rfl rfl rfl (StepS.ld0 rfl e0 kscalB_3_true rfl (idxm hx8) rfl) ?_
      refine TO.s rfl rfl rfl (StepS.assign rfl) ?_
      refine TO.s rfl rfl rfl (StepS.assign rfl) ?_
      refine TO.code ?_
      refine TC.k ?_
      refine TC.region ?_
      refine TO.s rfl rfl rfl (StepS.move rfl) ?_
      refine TO.s rfl rfl rfl (StepS.move rfl) ?_
      refine TO.s rfl rfl rfl (StepS.move rfl) ?_
      obtain ⟨x9, hx10, hb5⟩ := bind_some hb5
      refine TO.s rfl rfl rfl (StepS.idx rfl rfl e1 ksliceB_37_3_1_true (idx_spec hx10).1 (idxm_lt hx10)) ?_
      refine TO.s rfl rfl rfl (StepS.ld0 rfl e1 kscalB_3_true rfl (idxm hx10) rfl) ?_
      refine TO.s rfl rfl rfl (StepS.cmp rfl rfl rfl) ?_
      refine TO.code ?_
      refine TC.cond rfl (fun hc11 => ?_) (fun hc11 => ?_)
      · replace hb5 := cond_t hc11 hb5
        refine TC.k ?_
        refine TC.region ?_
        refine TO.s rfl rfl rfl (StepS.assign rfl) ?_
        refine TO.code ?_
        cases hb5
        refine TC.ret fun a w e s => ?_
        refine FRet.mk1 (P := Try.prog) (fn := Try.f26) (t := 4) e rfl rfl ?_
        exact ⟨rfl, s.mono fun _ => Sat.dropN 0⟩
      · replace hb5 := cond_f hc11 hb5
        refine TC.skipk ?_
        refine TC.region ?_
        refine TO.s rfl rfl rfl (StepS.ari rfl rfl rfl) ?_
        refine TO.s rfl rfl rfl (StepS.move rfl) ?_
        cases hb5
        refine TO.nil fun a w e s => ?_
        exact ⟨e.sub (lk_of_allIn ⟨rfl, rfl, rfl, rfl, trivial⟩), s⟩
    · replace hb5 := cond_f hc6 hb5
      cases hb5
      refine TC.exit rfl fun a w e s => ?_
      exact ⟨e.sub (lk_of_allIn trivial), s⟩
  · exact fun a w e s => ⟨e.sub (lk_of_allIn ⟨rfl, rfl, rfl, rfl, trivial⟩), s⟩
  · rintro _ rfl a w ⟨he, hs⟩
    dsimp only [Ctl.on] at hm
    refine TC.use ?_ he hs
    refine TC.k ?_
    refine TC.region ?_
    refine TO.s rfl rfl rfl (StepS.assign rfl) ?_
    refine TO.code ?_
    cases hm
    refine TC.ret fun a w e s => ?_
    refine FRet.mk1 (P := Try.prog) (fn := Try.f26) (t := 4) e rfl rfl ?_
    exact ⟨rfl, s.mono fun _ => Sat.dropN 0⟩
  · rintro r rfl
    cases hm
    exact fun a w h => h
end Go.Proofs.Ytgofkfhkolkfmaa
