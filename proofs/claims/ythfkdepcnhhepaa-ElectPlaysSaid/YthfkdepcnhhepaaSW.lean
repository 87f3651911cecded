/-
  The walks: each Go function returns what its model says. Written by a program (gen.py).
-/
import Derived.Test.YthfkdepcnhhepaaProg
import Derived.KernelRfl
import Derived.Test.YthfkdepcnhhepaaQW
import Derived.Test.YthfkdepcnhhepaaRW
import Derived.Test.YthfkdepcnhhepaaSM
namespace Go.Proofs.Ythfkdepcnhhepaa
open Go Go.Bk
set_option linter.unusedVariables false
set_option linter.unnecessarySimpa false
theorem ksliceB_24_28_1_true : sliceB Try.prog 24 28 1 = true := by kernel_rfl
theorem kscalB_28_true : scalB Try.prog 28 = true := by kernel_rfl
theorem ksliceB_85_114_2_true : sliceB Try.prog 85 114 2 = true := by kernel_rfl
theorem kaggB_114_2_true : aggB Try.prog 114 2 = true := by kernel_rfl
theorem kunderlying_114_some_array_2_3 : Try.prog.underlying 114 = some (.array 2 3) := by kernel_rfl
theorem kunderlying_3_some_int_i64 : Try.prog.underlying 3 = some (.int .i64) := by kernel_rfl
theorem keqGuardType_depth_114_false : Try.prog.eqGuardType Try.prog.depth 114 = false := by kernel_rfl
theorem kcallB_41_true : callB Try.prog 41 = true := by kernel_rfl
theorem kcallB_21_true : callB Try.prog 21 = true := by kernel_rfl
theorem kcallB_42_true : callB Try.prog 42 = true := by kernel_rfl
theorem kcallB_18_true : callB Try.prog 18 = true := by kernel_rfl
theorem kcallB_25_true : callB Try.prog 25 = true := by kernel_rfl
theorem kcallB_43_true : callB Try.prog 43 = true := by kernel_rfl

set_option maxRecDepth 100000 in
theorem C21 {B : World} {L : List HP} {a0 : Int} {a1 : Int} {r0 : Int} (hm : F21 a0 a1 = some r0) {w : World} (st : St B L w) : Calls Try.prog 21 #[I a0, I a1] w (fun e w' => (e = .returned (I r0) ∧ St B (L) w')) := by
  refine calls_of (N := 15) (L := L) (args := [I a0, I a1]) Try.func21 rfl rfl rfl ?_ st
  dsimp only [F21] at hm
  refine TC.k ?_
  refine TC.region ?_
  refine TO.s rfl rfl rfl (StepS.assign rfl) ?_
  refine TO.code ?_
  refine TC.k ?_
  refine TC.k ?_
  refine TC.region ?_
  refine TO.s rfl rfl rfl (StepS.move rfl) ?_
  refine TO.s rfl rfl rfl (StepS.cmp rfl rfl rfl) ?_
  refine TO.s rfl rfl rfl (StepS.move rfl) ?_
  refine TO.mid1 3 10 (.bool ((decide (a0 < 1)) || (decide (a0 > 6)))) ?_ ?_
  · refine bcase ((decide (a0 < 1))) (fun hb1 => ?_) (fun hb1 => ?_)
    · refine TO.skip rfl rfl rfl (skipT hb1) rfl rfl ?_
      refine TO.skip rfl rfl rfl (skipT hb1) rfl rfl ?_
      refine TO.s rfl rfl rfl (StepS.pickT rfl hb1 rfl) ?_
      exact TO.up1 3 0 rfl rfl (by rw [hb1]; rfl) rfl
    · refine TO.sw rfl rfl rfl hb1 rfl rfl (StepS.move rfl) ?_
      refine TO.sw rfl rfl rfl hb1 rfl rfl (StepS.cmp rfl rfl rfl) ?_
      refine TO.s rfl rfl rfl (StepS.pickF rfl hb1 rfl) ?_
      exact TO.up1 3 0 rfl rfl (by rw [hb1]; rfl) rfl
  refine TO.s rfl rfl rfl (StepS.move rfl) ?_
  refine TO.mid1 3 14 (.bool (((decide (a0 < 1)) || (decide (a0 > 6))) || (decide (a1 > 60)))) ?_ ?_
  · refine bcase (((decide (a0 < 1)) || (decide (a0 > 6)))) (fun hb2 => ?_) (fun hb2 => ?_)
    · refine TO.skip rfl rfl rfl (skipT hb2) rfl rfl ?_
      refine TO.skip rfl rfl rfl (skipT hb2) rfl rfl ?_
      refine TO.s rfl rfl rfl (StepS.pickT rfl hb2 rfl) ?_
      exact TO.up1 3 0 rfl rfl (by rw [hb2]; rfl) rfl
    · refine TO.sw rfl rfl rfl hb2 rfl rfl (StepS.move rfl) ?_
      refine TO.sw rfl rfl rfl hb2 rfl rfl (StepS.cmp rfl rfl rfl) ?_
      refine TO.s rfl rfl rfl (StepS.pickF rfl hb2 rfl) ?_
      exact TO.up1 3 0 rfl rfl (by rw [hb2]; rfl) rfl
  refine TO.code ?_
  refine TC.cond rfl (fun hc3 => ?_) (fun hc3 => ?_)
  · replace hm := cond_t hc3 hm
    refine TC.k ?_
    refine TC.region ?_
    refine TO.s rfl rfl rfl (StepS.assign rfl) ?_
    refine TO.code ?_
    cases hm
    refine TC.ret fun a w e s => ?_
    refine FRet.mk1 (P := Try.prog) (fn := Try.f21) (t := 4) e rfl rfl ?_
    exact ⟨rfl, s.mono fun _ => Sat.dropN 0⟩
  · replace hm := cond_f hc3 hm
    refine TC.skipk ?_
    refine TC.k ?_
    refine TC.region ?_
    refine TO.s rfl rfl rfl (StepS.assign rfl) ?_
    refine TO.code ?_
    cases hm
    refine TC.ret fun a w e s => ?_
    refine FRet.mk1 (P := Try.prog) (fn := Try.f21) (t := 4) e rfl rfl ?_
    exact ⟨rfl, s.mono fun _ => Sat.dropN 0⟩

set_option maxRecDepth 100000 in
theorem C18 {B : World} {L : List HP} {a0 : List Int} {a1 : List Int} {h0 : Value} {h1 : Value} {r0 : Bool} (e0 : Ent L (Rd 1 h0 (a0.map cI))) (e1 : Ent L (Rd 1 h1 (a1.map cI))) (hm : F18 a0 a1 = some r0) {w : World} (st : St B L w) : Calls Try.prog 18 #[h0, h1] w (fun e w' => (e = .returned (.bool r0) ∧ St B (L) w')) := by
  refine calls_of (N := 26) (L := L) (args := [h0, h1]) Try.func18 rfl rfl rfl ?_ st
  dsimp only [F18] at hm
  refine TC.k ?_
  refine TC.region ?_
  refine TO.s rfl rfl rfl (StepS.assign rfl) ?_
  refine TO.code ?_
  refine TC.k ?_
  refine TC.k ?_
  refine TC.region ?_
  refine TO.s rfl rfl rfl (StepS.move rfl) ?_
  refine TO.s rfl rfl rfl (StepS.lenm rfl e0 ksliceB_24_28_1_true rfl) ?_
  refine TO.s rfl rfl rfl (StepS.move rfl) ?_
  refine TO.s rfl rfl rfl (StepS.lenm rfl e1 ksliceB_24_28_1_true rfl) ?_
  refine TO.s rfl rfl rfl (StepS.cmp rfl rfl rfl) ?_
  refine TO.code ?_
  refine TC.cond rfl (fun hc1 => ?_) (fun hc1 => ?_)
  · replace hm := cond_t hc1 hm
    refine TC.k ?_
    refine TC.region ?_
    refine TO.s rfl rfl rfl (StepS.assign rfl) ?_
    refine TO.code ?_
    cases hm
    refine TC.ret fun a w e s => ?_
    refine FRet.mk1 (P := Try.prog) (fn := Try.f18) (t := 4) e rfl rfl ?_
    exact ⟨rfl, s.mono fun _ => Sat.dropN 0⟩
  · replace hm := cond_f hc1 hm
    refine TC.skipk ?_
    refine TC.k ?_
    refine TC.k ?_
    refine TC.region ?_
    refine TO.s rfl rfl rfl (StepS.assign rfl) ?_
    refine TO.code ?_
    obtain ⟨o4, hw5, hm⟩ := bind_some hm
    refine TC.loop hw5 (fun x2 => fun a w => Mid 26 B [(0, h0), (1, h1), (5, I x2)] (L) a w) (fun _ => fun a w => Mid 26 B [] (L) a w) (fun r0 => FRet Try.prog Try.f18 (fun e w' => (e = .returned (.bool r0) ∧ St B (L) w'))) ?_ ?_ ?_ ?_
    · rintro x2 o4r hb6 a w ⟨he, hs⟩
      dsimp only [F18_L0] at hb6
      refine TC.use ?_ he hs
      refine TC.k ?_
      refine TC.k ?_
      refine TC.region ?_
      refine TO.s rfl rfl rfl (StepS.move rfl) ?_
      refine TO.s rfl rfl rfl (StepS.move rfl) ?_
      refine TO.s rfl rfl rfl (StepS.lenm rfl e0 ksliceB_24_28_1_true rfl) ?_
      refine TO.s rfl rfl rfl (StepS.cmp rfl rfl rfl) ?_
      refine TO.code ?_
      refine TC.cond rfl (fun hc7 => ?_) (fun hc7 => ?_)
      · replace hb6 := cond_t hc7 hb6
        refine TC.skipk ?_
        refine TC.k ?_
        refine TC.block ?_
        refine TC.k ?_
        refine TC.region_still kfollows_mixedOrders_true (by kernel_rfl) ?_
        refine TS.s rfl rfl rfl (StepS.move rfl) ?_
        refine TS.s rfl rfl rfl (StepS.move rfl) ?_
        obtain ⟨x8, hx9, hb6⟩ := bind_some hb6
        refine TS.s rfl rfl rfl (StepS.idx rfl rfl e0 ksliceB_24_28_1_true (idx_spec hx9).1 (idxm_lt hx9)) ?_
        refine TS.s rfl rfl rfl (StepS.ld0 rfl e0 kscalB_28_true rfl (idxm hx9) rfl) ?_
        refine TS.s rfl rfl rfl (StepS.move rfl) ?_
        refine TS.s rfl rfl rfl (StepS.move rfl) ?_
        obtain ⟨x10, hx11, hb6⟩ := bind_some hb6
        refine TS.s rfl rfl rfl (StepS.idx rfl rfl e1 ksliceB_24_28_1_true (idx_spec hx11).1 (idxm_lt hx11)) ?_
        refine TS.s rfl rfl rfl (StepS.ld0 rfl e1 kscalB_28_true rfl (idxm hx11) rfl) ?_
        refine TS.s rfl rfl rfl (StepS.cmp rfl rfl rfl) ?_
        refine TS.code ?_
        refine TC.cond rfl (fun hc12 => ?_) (fun hc12 => ?_)
        · replace hb6 := cond_t hc12 hb6
          refine TC.k ?_
          refine TC.region ?_
          refine TO.s rfl rfl rfl (StepS.assign rfl) ?_
          refine TO.code ?_
          cases hb6
          refine TC.ret fun a w e s => ?_
          refine FRet.mk1 (P := Try.prog) (fn := Try.f18) (t := 4) e rfl rfl ?_
          exact ⟨rfl, s.mono fun _ => Sat.dropN 0⟩
        · replace hb6 := cond_f hc12 hb6
          refine TC.skipk ?_
          refine TC.region ?_
          refine TO.s rfl rfl rfl (StepS.move rfl) ?_
          refine TO.s rfl rfl rfl (StepS.ari rfl rfl rfl) ?_
          refine TO.s rfl rfl rfl (StepS.assign rfl) ?_
          cases hb6
          refine TO.nil fun a w e s => ?_
          exact ⟨e.sub (lk_of_allIn ⟨rfl, rfl, rfl, trivial⟩), s⟩
      · replace hb6 := cond_f hc7 hb6
        cases hb6
        refine TC.exit rfl fun a w e s => ?_
        exact ⟨e.sub (lk_of_allIn trivial), s⟩
    · exact fun a w e s => ⟨e.sub (lk_of_allIn ⟨rfl, rfl, rfl, trivial⟩), s⟩
    · rintro _ rfl a w ⟨he, hs⟩
      dsimp only [Ctl.on] at hm
      refine TC.use ?_ he hs
      refine TC.k ?_
      refine TC.region ?_
      refine TO.s rfl rfl rfl (StepS.assign rfl) ?_
      refine TO.code ?_
      cases hm
      refine TC.ret fun a w e s => ?_
      refine FRet.mk1 (P := Try.prog) (fn := Try.f18) (t := 4) e rfl rfl ?_
      exact ⟨rfl, s.mono fun _ => Sat.dropN 0⟩
    · rintro r rfl
      cases hm
      exact fun a w h => h

set_option maxRecDepth 100000 in
theorem C25 {B : World} {L : List HP} {a0 : List Int} {a1 : List Int} {h0 : Value} {h1 : Value} {r0 : Bool} (e0 : Ent L (Rd 1 h0 (a0.map cI))) (e1 : Ent L (Rd 1 h1 (a1.map cI))) (hm : F25 a0 a1 = some r0) {w : World} (st : St B L w) : Calls Try.prog 25 #[h0, h1] w (fun e w' => (e = .returned (.bool r0) ∧ St B (L) w')) := by
  refine calls_of (N := 26) (L := L) (args := [h0, h1]) Try.func25 rfl rfl rfl ?_ st
  dsimp only [F25] at hm
  refine TC.k ?_
  refine TC.region ?_
  refine TO.s rfl rfl rfl (StepS.assign rfl) ?_
  refine TO.code ?_
  refine TC.k ?_
  refine TC.k ?_
  refine TC.region ?_
  refine TO.s rfl rfl rfl (StepS.move rfl) ?_
  refine TO.s rfl rfl rfl (StepS.lenm rfl e0 ksliceB_22_3_1_true rfl) ?_
  refine TO.s rfl rfl rfl (StepS.move rfl) ?_
  refine TO.s rfl rfl rfl (StepS.lenm rfl e1 ksliceB_22_3_1_true rfl) ?_
  refine TO.s rfl rfl rfl (StepS.cmp rfl rfl rfl) ?_
  refine TO.code ?_
  refine TC.cond rfl (fun hc1 => ?_) (fun hc1 => ?_)
  · replace hm := cond_t hc1 hm
    refine TC.k ?_
    refine TC.region ?_
    refine TO.s rfl rfl rfl (StepS.assign rfl) ?_
    refine TO.code ?_
    cases hm
    refine TC.ret fun a w e s => ?_
    refine FRet.mk1 (P := Try.prog) (fn := Try.f25) (t := 4) e rfl rfl ?_
    exact ⟨rfl, s.mono fun _ => Sat.dropN 0⟩
  · replace hm := cond_f hc1 hm
    refine TC.skipk ?_
    refine TC.k ?_
    refine TC.k ?_
    refine TC.region ?_
    refine TO.s rfl rfl rfl (StepS.assign rfl) ?_
    refine TO.code ?_
    obtain ⟨o4, hw5, hm⟩ := bind_some hm
    refine TC.loop hw5 (fun x2 => fun a w => Mid 26 B [(0, h0), (1, h1), (5, I x2)] (L) a w) (fun _ => fun a w => Mid 26 B [] (L) a w) (fun r0 => FRet Try.prog Try.f25 (fun e w' => (e = .returned (.bool r0) ∧ St B (L) w'))) ?_ ?_ ?_ ?_
    · rintro x2 o4r hb6 a w ⟨he, hs⟩
      dsimp only [F25_L0] at hb6
      refine TC.use ?_ he hs
      refine TC.k ?_
      refine TC.k ?_
      refine TC.region ?_
      refine TO.s rfl rfl rfl (StepS.move rfl) ?_
      refine TO.s rfl rfl rfl (StepS.move rfl) ?_
      refine TO.s rfl rfl rfl (StepS.lenm rfl e0 ksliceB_22_3_1_true rfl) ?_
      refine TO.s rfl rfl rfl (StepS.cmp rfl rfl rfl) ?_
      refine TO.code ?_
      refine TC.cond rfl (fun hc7 => ?_) (fun hc7 => ?_)
      · replace hb6 := cond_t hc7 hb6
        refine TC.skipk ?_
        refine TC.k ?_
        refine TC.block ?_
        refine TC.k ?_
        refine TC.region_still kfollows_mixedOrders_true (by kernel_rfl) ?_
        refine TS.s rfl rfl rfl (StepS.move rfl) ?_
        refine TS.s rfl rfl rfl (StepS.move rfl) ?_
        obtain ⟨x8, hx9, hb6⟩ := bind_some hb6
        refine TS.s rfl rfl rfl (StepS.idx rfl rfl e0 ksliceB_22_3_1_true (idx_spec hx9).1 (idxm_lt hx9)) ?_
        refine TS.s rfl rfl rfl (StepS.ld0 rfl e0 kscalB_3_true rfl (idxm hx9) rfl) ?_
        refine TS.s rfl rfl rfl (StepS.move rfl) ?_
        refine TS.s rfl rfl rfl (StepS.move rfl) ?_
        obtain ⟨x10, hx11, hb6⟩ := bind_some hb6
        refine TS.s rfl rfl rfl (StepS.idx rfl rfl e1 ksliceB_22_3_1_true (idx_spec hx11).1 (idxm_lt hx11)) ?_
        refine TS.s rfl rfl rfl (StepS.ld0 rfl e1 kscalB_3_true rfl (idxm hx11) rfl) ?_
        refine TS.s rfl rfl rfl (StepS.cmp rfl rfl rfl) ?_
        refine TS.code ?_
        refine TC.cond rfl (fun hc12 => ?_) (fun hc12 => ?_)
        · replace hb6 := cond_t hc12 hb6
          refine TC.k ?_
          refine TC.region ?_
          refine TO.s rfl rfl rfl (StepS.assign rfl) ?_
          refine TO.code ?_
          cases hb6
          refine TC.ret fun a w e s => ?_
          refine FRet.mk1 (P := Try.prog) (fn := Try.f25) (t := 4) e rfl rfl ?_
          exact ⟨rfl, s.mono fun _ => Sat.dropN 0⟩
        · replace hb6 := cond_f hc12 hb6
          refine TC.skipk ?_
          refine TC.region ?_
          refine TO.s rfl rfl rfl (StepS.move rfl) ?_
          refine TO.s rfl rfl rfl (StepS.ari rfl rfl rfl) ?_
          refine TO.s rfl rfl rfl (StepS.assign rfl) ?_
          cases hb6
          refine TO.nil fun a w e s => ?_
          exact ⟨e.sub (lk_of_allIn ⟨rfl, rfl, rfl, trivial⟩), s⟩
      · replace hb6 := cond_f hc7 hb6
        cases hb6
        refine TC.exit rfl fun a w e s => ?_
        exact ⟨e.sub (lk_of_allIn trivial), s⟩
    · exact fun a w e s => ⟨e.sub (lk_of_allIn ⟨rfl, rfl, rfl, trivial⟩), s⟩
    · rintro _ rfl a w ⟨he, hs⟩
      dsimp only [Ctl.on] at hm
      refine TC.use ?_ he hs
      refine TC.k ?_
      refine TC.region ?_
      refine TO.s rfl rfl rfl (StepS.assign rfl) ?_
      refine TO.code ?_
      cases hm
      refine TC.ret fun a w e s => ?_
      refine FRet.mk1 (P := Try.prog) (fn := Try.f25) (t := 4) e rfl rfl ?_
      exact ⟨rfl, s.mono fun _ => Sat.dropN 0⟩
    · rintro r rfl
      cases hm
      exact fun a w h => h

set_option maxRecDepth 100000 in
theorem C43 {B : World} {L : List HP} {a0 : List (Int × Int)} {a1 : List (Int × Int)} {h0 : Value} {h1 : Value} {r0 : Bool} (e0 : Ent L (Rd 2 h0 (a0.map cTii))) (e1 : Ent L (Rd 2 h1 (a1.map cTii))) (hm : F43 a0 a1 = some r0) {w : World} (st : St B L w) : Calls Try.prog 43 #[h0, h1] w (fun e w' => (e = .returned (.bool r0) ∧ St B (L) w')) := by
  refine calls_of (N := 26) (L := L) (args := [h0, h1]) Try.func43 rfl rfl rfl ?_ st
  dsimp only [F43] at hm
  refine TC.k ?_
  refine TC.region ?_
  refine TO.s rfl rfl rfl (StepS.assign rfl) ?_
  refine TO.code ?_
  refine TC.k ?_
  refine TC.k ?_
  refine TC.region ?_
  refine TO.s rfl rfl rfl (StepS.move rfl) ?_
  refine TO.s rfl rfl rfl (StepS.lenm rfl e0 ksliceB_85_114_2_true rfl) ?_
  refine TO.s rfl rfl rfl (StepS.move rfl) ?_
  refine TO.s rfl rfl rfl (StepS.lenm rfl e1 ksliceB_85_114_2_true rfl) ?_
  refine TO.s rfl rfl rfl (StepS.cmp rfl rfl rfl) ?_
  refine TO.code ?_
  refine TC.cond rfl (fun hc1 => ?_) (fun hc1 => ?_)
  · replace hm := cond_t hc1 hm
    refine TC.k ?_
    refine TC.region ?_
    refine TO.s rfl rfl rfl (StepS.assign rfl) ?_
    refine TO.code ?_
    cases hm
    refine TC.ret fun a w e s => ?_
    refine FRet.mk1 (P := Try.prog) (fn := Try.f43) (t := 4) e rfl rfl ?_
    exact ⟨rfl, s.mono fun _ => Sat.dropN 0⟩
  · replace hm := cond_f hc1 hm
    refine TC.skipk ?_
    refine TC.k ?_
    refine TC.k ?_
    refine TC.region ?_
    refine TO.s rfl rfl rfl (StepS.assign rfl) ?_
    refine TO.code ?_
    obtain ⟨o4, hw5, hm⟩ := bind_some hm
    refine TC.loop hw5 (fun x2 => fun a w => Mid 26 B [(0, h0), (1, h1), (5, I x2)] (L) a w) (fun _ => fun a w => Mid 26 B [] (L) a w) (fun r0 => FRet Try.prog Try.f43 (fun e w' => (e = .returned (.bool r0) ∧ St B (L) w'))) ?_ ?_ ?_ ?_
    · rintro x2 o4r hb6 a w ⟨he, hs⟩
      dsimp only [F43_L0] at hb6
      refine TC.use ?_ he hs
      refine TC.k ?_
      refine TC.k ?_
      refine TC.region ?_
      refine TO.s rfl rfl rfl (StepS.move rfl) ?_
      refine TO.s rfl rfl rfl (StepS.move rfl) ?_
      refine TO.s rfl rfl rfl (StepS.lenm rfl e0 ksliceB_85_114_2_true rfl) ?_
      refine TO.s rfl rfl rfl (StepS.cmp rfl rfl rfl) ?_
      refine TO.code ?_
      refine TC.cond rfl (fun hc7 => ?_) (fun hc7 => ?_)
      · replace hb6 := cond_t hc7 hb6
        refine TC.skipk ?_
        refine TC.k ?_
        refine TC.block ?_
        refine TC.k ?_
        refine TC.region_still kfollows_mixedOrders_true (by kernel_rfl) ?_
        refine TS.s rfl rfl rfl (StepS.move rfl) ?_
        refine TS.s rfl rfl rfl (StepS.move rfl) ?_
        obtain ⟨x8, hx9, hb6⟩ := bind_some hb6
        refine TS.s rfl rfl rfl (StepS.idx rfl rfl e0 ksliceB_85_114_2_true (idx_spec hx9).1 (idxm_lt hx9)) ?_
        refine TS.s rfl rfl rfl (StepS.ldE rfl e0 kaggB_114_2_true rfl (idxm hx9)) ?_
        refine TS.s rfl rfl rfl (StepS.move rfl) ?_
        refine TS.s rfl rfl rfl (StepS.move rfl) ?_
        obtain ⟨x10, hx11, hb6⟩ := bind_some hb6
        refine TS.s rfl rfl rfl (StepS.idx rfl rfl e1 ksliceB_85_114_2_true (idx_spec hx11).1 (idxm_lt hx11)) ?_
        refine TS.s rfl rfl rfl (StepS.ldE rfl e1 kaggB_114_2_true rfl (idxm hx11)) ?_
        refine TS.s rfl rfl rfl (StepS.ne2 kunderlying_114_some_array_2_3 kunderlying_3_some_int_i64 ksizeB_3_1_true kscalB_3_true keqGuardType_depth_114_false rfl rfl) ?_
        refine TS.code ?_
        refine TC.cond rfl (fun hc12 => ?_) (fun hc12 => ?_)
        · replace hb6 := cond_t hc12 hb6
          refine TC.k ?_
          refine TC.region ?_
          refine TO.s rfl rfl rfl (StepS.assign rfl) ?_
          refine TO.code ?_
          cases hb6
          refine TC.ret fun a w e s => ?_
          refine FRet.mk1 (P := Try.prog) (fn := Try.f43) (t := 4) e rfl rfl ?_
          exact ⟨rfl, s.mono fun _ => Sat.dropN 0⟩
        · replace hb6 := cond_f hc12 hb6
          refine TC.skipk ?_
          refine TC.region ?_
          refine TO.s rfl rfl rfl (StepS.move rfl) ?_
          refine TO.s rfl rfl rfl (StepS.ari rfl rfl rfl) ?_
          refine TO.s rfl rfl rfl (StepS.assign rfl) ?_
          cases hb6
          refine TO.nil fun a w e s => ?_
          exact ⟨e.sub (lk_of_allIn ⟨rfl, rfl, rfl, trivial⟩), s⟩
      · replace hb6 := cond_f hc7 hb6
        cases hb6
        refine TC.exit rfl fun a w e s => ?_
        exact ⟨e.sub (lk_of_allIn trivial), s⟩
    · exact fun a w e s => ⟨e.sub (lk_of_allIn ⟨rfl, rfl, rfl, trivial⟩), s⟩
    · rintro _ rfl a w ⟨he, hs⟩
      dsimp only [Ctl.on] at hm
      refine TC.use ?_ he hs
      refine TC.k ?_
      refine TC.region ?_
      refine TO.s rfl rfl rfl (StepS.assign rfl) ?_
      refine TO.code ?_
      cases hm
      refine TC.ret fun a w e s => ?_
      refine FRet.mk1 (P := Try.prog) (fn := Try.f43) (t := 4) e rfl rfl ?_
      exact ⟨rfl, s.mono fun _ => Sat.dropN 0⟩
    · rintro r rfl
      cases hm
      exact fun a w h => h

set_option maxRecDepth 100000 in
theorem C12 {B : World} {L : List HP} {a0 : Int} {a1 : List (Int × Int × Int × Int)} {h1 : Value} {r0 : Bool} (e1 : Ent L (Rd 4 h1 (a1.map cTiiii))) (hm : F12 a0 a1 = some r0) {w : World} (st : St B L w) : Calls Try.prog 12 #[I a0, h1] w (fun e w' => (e = .returned (.bool r0) ∧ St B (L) w')) := by
  refine calls_of (N := 63) (L := L) (args := [I a0, h1]) Try.func12 rfl rfl rfl ?_ st
  dsimp only [F12] at hm
  refine TC.k ?_
  refine TC.region ?_
  refine TO.s rfl rfl rfl (StepS.assign rfl) ?_
  refine TO.code ?_
  refine TC.k ?_
  refine TC.region ?_
  refine TO.s rfl rfl rfl (StepS.move rfl) ?_
  refine TO.s rfl rfl rfl (StepS.move rfl) ?_
  obtain ⟨⟨r1, r2⟩, hc3, hm⟩ := bind_some hm
  refine TO.callO kcallB_41_true rfl rfl rfl (fun _ st => C41 e1 hc3 st) ?_
  rintro _ _ ⟨v4, v6, v8, v10, v12, rfl, rfl⟩
  refine TO.s rfl rfl rfl (StepS.move rfl) ?_
  refine TO.s rfl rfl rfl (StepS.extract rfl rfl) ?_
  refine TO.s rfl rfl rfl (StepS.extract rfl rfl) ?_
  refine TO.alloc kinfo_87_bind_zero_some_agg_slice_none_0_0_slice_none_0_0_slice_none_0_0_slice_none_0_0_slice_none_0_0 rfl rfl fun b14 => ?_
  refine TO.pure (fun _ s => Rd.one (OwnS.rd (Ent.at 1 rfl)) s) fun oc15 => ?_
  refine TO.pure (fun _ s => Rd.one (OwnS.rd (Ent.at 2 rfl)) s) fun oc16 => ?_
  refine TO.pure (fun _ s => Rd.one (OwnS.rd (Ent.at 3 rfl)) s) fun oc17 => ?_
  refine TO.pure (fun _ s => Rd.one (OwnS.rd (Ent.at 4 rfl)) s) fun oc18 => ?_
  refine TO.pure (fun _ s => Rd.one (OwnS.rd (Ent.at 5 rfl)) s) fun oc19 => ?_
  refine TO.stB (us := [v4, v6, v8, v10, v12]) 0 [v4, v6, v8, v10, v12] rfl rfl rfl ksizeB_87_5_true rfl rfl rfl (by intro u hu; simp only [List.mem_cons, List.not_mem_nil, or_false] at hu; rcases hu with rfl | rfl | rfl | rfl | rfl <;> first | exact oc15.1 | exact oc16.1 | exact oc17.1 | exact oc18.1 | exact oc19.1 | rfl) rfl ?_
  refine TO.s rfl rfl rfl (StepS.assign rfl) ?_
  refine TO.code ?_
  refine TC.k ?_
  refine TC.region ?_
  refine TO.s rfl rfl rfl (StepS.move rfl) ?_
  refine TO.s rfl rfl rfl (StepS.move rfl) ?_
  refine TO.s rfl rfl rfl (StepS.lenm rfl e1.tl.tl.tl.tl.tl.tl ksliceB_23_106_4_true rfl) ?_
  obtain ⟨r20, hc21, hm⟩ := bind_some hm
  refine TO.q rfl rfl rfl (StepQ.call kcallB_21_true rfl rfl (fun _ st => C21  hc21 st)) ?_
  refine TO.s rfl rfl rfl (StepS.assign rfl) ?_
  refine TO.code ?_
  refine TC.k ?_
  refine TC.region ?_
  refine TO.s rfl rfl rfl (StepS.build (cs := [.slice none 0 0, .slice none 0 0, .slice none 0 0, .slice none 0 0, .slice none 0 0]) rfl (by kernel_rfl)) ?_
  refine TO.alloc kinfo_87_bind_zero_some_agg_slice_none_0_0_slice_none_0_0_slice_none_0_0_slice_none_0_0_slice_none_0_0 rfl rfl fun b22 => ?_
  refine TO.stB (us := [.slice none 0 0, .slice none 0 0, .slice none 0 0, .slice none 0 0, .slice none 0 0]) 0 [.slice none 0 0, .slice none 0 0, .slice none 0 0, .slice none 0 0, .slice none 0 0] rfl rfl rfl ksizeB_87_5_true rfl rfl rfl (by simp [Value.oneCell']) rfl ?_
  refine TO.code ?_
  refine TC.k ?_
  refine TC.k ?_
  refine TC.region ?_
  refine TO.s rfl rfl rfl (StepS.move rfl) ?_
  refine TO.s rfl rfl rfl (StepS.cmp rfl rfl rfl) ?_
  refine TO.code ?_
  obtain ⟨⟨y25, y28, y31, y34, y37⟩, hj38, hm⟩ := bind_some hm
  first | refine TC.cutM (fun a w => ∃ v23 : Value, ∃ v26 : Value, ∃ v29 : Value, ∃ v32 : Value, ∃ v35 : Value, Mid 63 B [(5, .pointer (some ⟨b14, 0, none⟩)), (6, I r2), (7, I r20), (8, .pointer (some ⟨b22, 0, none⟩))] (OwnS 28 1 v23 (y25.map cI) :: OwnS 3 1 v26 (y28.map cI) :: OwnS 3 1 v29 (y31.map cI) :: OwnS 3 1 v32 (y34.map cI) :: OwnS 114 2 v35 (y37.map cTii) :: Bx b22 87 [v23, v26, v29, v32, v35] :: Bx b14 87 [v4, v6, v8, v10, v12] :: OwnS 28 1 v4 (r1.1.map cI) :: OwnS 3 1 v6 (r1.2.1.map cI) :: OwnS 3 1 v8 (r1.2.2.1.map cI) :: OwnS 3 1 v10 (r1.2.2.2.1.map cI) :: OwnS 114 2 v12 (r1.2.2.2.2.map cTii) :: L) a w) ?_ ?_ | refine TC.cutX (fun a w => ∃ v23 : Value, ∃ v26 : Value, ∃ v29 : Value, ∃ v32 : Value, ∃ v35 : Value, Mid 63 B [(5, .pointer (some ⟨b14, 0, none⟩)), (6, I r2), (7, I r20), (8, .pointer (some ⟨b22, 0, none⟩))] (OwnS 28 1 v23 (y25.map cI) :: OwnS 3 1 v26 (y28.map cI) :: OwnS 3 1 v29 (y31.map cI) :: OwnS 3 1 v32 (y34.map cI) :: OwnS 114 2 v35 (y37.map cTii) :: Bx b22 87 [v23, v26, v29, v32, v35] :: Bx b14 87 [v4, v6, v8, v10, v12] :: OwnS 28 1 v4 (r1.1.map cI) :: OwnS 3 1 v6 (r1.2.1.map cI) :: OwnS 3 1 v8 (r1.2.2.1.map cI) :: OwnS 3 1 v10 (r1.2.2.2.1.map cI) :: OwnS 114 2 v12 (r1.2.2.2.2.map cTii) :: L) a w) ?_ ?_
  · refine TC.cond rfl (fun hc39 => ?_) (fun hc39 => ?_)
    · replace hj38 := cond_t hc39 hj38
      refine TC.region ?_
      refine TO.s rfl rfl rfl (StepS.move rfl) ?_
      refine TO.s rfl rfl rfl (StepS.move rfl) ?_
      obtain ⟨r40, hc41, hj38⟩ := bind_some hj38
      refine TO.callO kcallB_42_true rfl rfl rfl (fun _ st => C42 e1.tl.tl.tl.tl.tl.tl.tl hc41 st) ?_
      rintro _ _ ⟨v42, v44, v46, v48, v50, rfl, rfl⟩
      refine TO.pure (fun _ s => Rd.one (OwnS.rd (Ent.at 0 rfl)) s) fun oc52 => ?_
      refine TO.pure (fun _ s => Rd.one (OwnS.rd (Ent.at 1 rfl)) s) fun oc53 => ?_
      refine TO.pure (fun _ s => Rd.one (OwnS.rd (Ent.at 2 rfl)) s) fun oc54 => ?_
      refine TO.pure (fun _ s => Rd.one (OwnS.rd (Ent.at 3 rfl)) s) fun oc55 => ?_
      refine TO.pure (fun _ s => Rd.one (OwnS.rd (Ent.at 4 rfl)) s) fun oc56 => ?_
      refine TO.stB (us := [v42, v44, v46, v48, v50]) 5 [v42, v44, v46, v48, v50] rfl rfl rfl ksizeB_87_5_true rfl rfl rfl (by intro u hu; simp only [List.mem_cons, List.not_mem_nil, or_false] at hu; rcases hu with rfl | rfl | rfl | rfl | rfl <;> first | exact oc52.1 | exact oc53.1 | exact oc54.1 | exact oc55.1 | exact oc56.1 | rfl) rfl ?_
      cases hj38
      refine TO.nil fun a w e s => ?_
      exact ⟨v42, v44, v46, v48, v50, e.sub (lk_of_allIn ⟨rfl, rfl, rfl, rfl, trivial⟩), s⟩
    · replace hj38 := cond_f hc39 hj38
      cases hj38
      refine TC.skip fun a w e s => ?_
      exact ⟨.slice none 0 0, .slice none 0 0, .slice none 0 0, .slice none 0 0, .slice none 0 0, e.sub (lk_of_allIn ⟨rfl, rfl, rfl, rfl, trivial⟩), s.mono fun _ s => (by replace s := Sat.nilS (e := 114) (sz := 2) (f := cTii) s; replace s := Sat.nilS (e := 3) (sz := 1) (f := cI) s; replace s := Sat.nilS (e := 3) (sz := 1) (f := cI) s; replace s := Sat.nilS (e := 3) (sz := 1) (f := cI) s; replace s := Sat.nilS (e := 28) (sz := 1) (f := cI) s; exact Sat.by [11, 11, 11, 11, 11, 11, 11, 11, 11, 11, 11, 11] 12 0 (by kernel_rfl) s)⟩
  · intro a w ⟨v23, v26, v29, v32, v35, he, hs⟩
    refine TC.use ?_ he hs
    refine TC.k ?_
    refine TC.region ?_
    refine TO.s rfl rfl rfl (StepS.move rfl) ?_
    refine TO.s rfl rfl rfl (StepS.move rfl) ?_
    refine TO.s rfl rfl rfl (StepS.cmp rfl rfl rfl) ?_
    refine TO.s rfl rfl rfl (StepS.move rfl) ?_
    obtain ⟨b58, hj59, hm⟩ := bind_some hm
    refine TO.mid1 6 34 (.bool b58) ?_ ?_
    · refine bcase ((r2 == r20)) (fun hb57 => ?_) (fun hb57 => ?_)
      · replace hj59 := cond_t hb57 hj59
        refine TO.sw rfl rfl rfl hb57 rfl rfl (StepS.fld rfl kfieldB_87_0_0_true) ?_
        refine TO.sw rfl rfl rfl hb57 rfl rfl (StepS.ldB rfl (Ent.at 6 rfl) kscalB_24_true rfl) ?_
        refine TO.sw rfl rfl rfl hb57 rfl rfl (StepS.fld rfl kfieldB_87_0_0_true) ?_
        refine TO.sw rfl rfl rfl hb57 rfl rfl (StepS.ldB rfl (Ent.at 5 rfl) kscalB_24_true rfl) ?_
        obtain ⟨r60, hc61, hj59⟩ := bind_some hj59
        refine TO.qw rfl rfl rfl hb57 rfl rfl (StepQ.call kcallB_18_true rfl rfl (fun _ st => C18 (OwnS.rd (Ent.at 7 rfl)) (OwnS.rd (Ent.at 0 rfl)) hc61 st)) ?_
        cases hj59
        refine TO.s rfl rfl rfl (StepS.pickT rfl hb57 rfl) ?_
        exact TO.up1 6 0 rfl rfl rfl rfl
      · replace hj59 := cond_f hb57 hj59
        cases hj59
        refine TO.skip rfl rfl rfl (skipF hb57) rfl rfl ?_
        refine TO.skip rfl rfl rfl (skipF hb57) rfl rfl ?_
        refine TO.skip rfl rfl rfl (skipF hb57) rfl rfl ?_
        refine TO.skip rfl rfl rfl (skipF hb57) rfl rfl ?_
        refine TO.skip rfl rfl rfl (skipF hb57) rfl rfl ?_
        refine TO.s rfl rfl rfl (StepS.pickF rfl hb57 rfl) ?_
        exact TO.up1 6 0 rfl rfl rfl rfl
    refine TO.s rfl rfl rfl (StepS.move rfl) ?_
    obtain ⟨b63, hj64, hm⟩ := bind_some hm
    refine TO.mid1 6 41 (.bool b63) ?_ ?_
    · refine bcase (b58) (fun hb62 => ?_) (fun hb62 => ?_)
      · replace hj64 := cond_t hb62 hj64
        refine TO.sw rfl rfl rfl hb62 rfl rfl (StepS.fld rfl kfieldB_87_1_1_true) ?_
        refine TO.sw rfl rfl rfl hb62 rfl rfl (StepS.ldB rfl (Ent.at 6 rfl) kscalB_22_true rfl) ?_
        refine TO.sw rfl rfl rfl hb62 rfl rfl (StepS.fld rfl kfieldB_87_1_1_true) ?_
        refine TO.sw rfl rfl rfl hb62 rfl rfl (StepS.ldB rfl (Ent.at 5 rfl) kscalB_22_true rfl) ?_
        obtain ⟨r65, hc66, hj64⟩ := bind_some hj64
        refine TO.qw rfl rfl rfl hb62 rfl rfl (StepQ.call kcallB_25_true rfl rfl (fun _ st => C25 (OwnS.rd (Ent.at 8 rfl)) (OwnS.rd (Ent.at 1 rfl)) hc66 st)) ?_
        cases hj64
        refine TO.s rfl rfl rfl (StepS.pickT rfl hb62 rfl) ?_
        exact TO.up1 6 0 rfl rfl rfl rfl
      · replace hj64 := cond_f hb62 hj64
        cases hj64
        refine TO.skip rfl rfl rfl (skipF hb62) rfl rfl ?_
        refine TO.skip rfl rfl rfl (skipF hb62) rfl rfl ?_
        refine TO.skip rfl rfl rfl (skipF hb62) rfl rfl ?_
        refine TO.skip rfl rfl rfl (skipF hb62) rfl rfl ?_
        refine TO.skip rfl rfl rfl (skipF hb62) rfl rfl ?_
        refine TO.s rfl rfl rfl (StepS.pickF rfl hb62 rfl) ?_
        exact TO.up1 6 0 rfl rfl rfl rfl
    refine TO.s rfl rfl rfl (StepS.move rfl) ?_
    obtain ⟨b68, hj69, hm⟩ := bind_some hm
    refine TO.mid1 6 48 (.bool b68) ?_ ?_
    · refine bcase (b63) (fun hb67 => ?_) (fun hb67 => ?_)
      · replace hj69 := cond_t hb67 hj69
        refine TO.sw rfl rfl rfl hb67 rfl rfl (StepS.fld rfl kfieldB_87_2_2_true) ?_
        refine TO.sw rfl rfl rfl hb67 rfl rfl (StepS.ldB rfl (Ent.at 6 rfl) kscalB_22_true rfl) ?_
        refine TO.sw rfl rfl rfl hb67 rfl rfl (StepS.fld rfl kfieldB_87_2_2_true) ?_
        refine TO.sw rfl rfl rfl hb67 rfl rfl (StepS.ldB rfl (Ent.at 5 rfl) kscalB_22_true rfl) ?_
        obtain ⟨r70, hc71, hj69⟩ := bind_some hj69
        refine TO.qw rfl rfl rfl hb67 rfl rfl (StepQ.call kcallB_25_true rfl rfl (fun _ st => C25 (OwnS.rd (Ent.at 9 rfl)) (OwnS.rd (Ent.at 2 rfl)) hc71 st)) ?_
        cases hj69
        refine TO.s rfl rfl rfl (StepS.pickT rfl hb67 rfl) ?_
        exact TO.up1 6 0 rfl rfl rfl rfl
      · replace hj69 := cond_f hb67 hj69
        cases hj69
        refine TO.skip rfl rfl rfl (skipF hb67) rfl rfl ?_
        refine TO.skip rfl rfl rfl (skipF hb67) rfl rfl ?_
        refine TO.skip rfl rfl rfl (skipF hb67) rfl rfl ?_
        refine TO.skip rfl rfl rfl (skipF hb67) rfl rfl ?_
        refine TO.skip rfl rfl rfl (skipF hb67) rfl rfl ?_
        refine TO.s rfl rfl rfl (StepS.pickF rfl hb67 rfl) ?_
        exact TO.up1 6 0 rfl rfl rfl rfl
    refine TO.s rfl rfl rfl (StepS.move rfl) ?_
    obtain ⟨b73, hj74, hm⟩ := bind_some hm
    refine TO.mid1 6 55 (.bool b73) ?_ ?_
    · refine bcase (b68) (fun hb72 => ?_) (fun hb72 => ?_)
      · replace hj74 := cond_t hb72 hj74
        refine TO.sw rfl rfl rfl hb72 rfl rfl (StepS.fld rfl kfieldB_87_3_3_true) ?_
        refine TO.sw rfl rfl rfl hb72 rfl rfl (StepS.ldB rfl (Ent.at 6 rfl) kscalB_22_true rfl) ?_
        refine TO.sw rfl rfl rfl hb72 rfl rfl (StepS.fld rfl kfieldB_87_3_3_true) ?_
        refine TO.sw rfl rfl rfl hb72 rfl rfl (StepS.ldB rfl (Ent.at 5 rfl) kscalB_22_true rfl) ?_
        obtain ⟨r75, hc76, hj74⟩ := bind_some hj74
        refine TO.qw rfl rfl rfl hb72 rfl rfl (StepQ.call kcallB_25_true rfl rfl (fun _ st => C25 (OwnS.rd (Ent.at 10 rfl)) (OwnS.rd (Ent.at 3 rfl)) hc76 st)) ?_
        cases hj74
        refine TO.s rfl rfl rfl (StepS.pickT rfl hb72 rfl) ?_
        exact TO.up1 6 0 rfl rfl rfl rfl
      · replace hj74 := cond_f hb72 hj74
        cases hj74
        refine TO.skip rfl rfl rfl (skipF hb72) rfl rfl ?_
        refine TO.skip rfl rfl rfl (skipF hb72) rfl rfl ?_
        refine TO.skip rfl rfl rfl (skipF hb72) rfl rfl ?_
        refine TO.skip rfl rfl rfl (skipF hb72) rfl rfl ?_
        refine TO.skip rfl rfl rfl (skipF hb72) rfl rfl ?_
        refine TO.s rfl rfl rfl (StepS.pickF rfl hb72 rfl) ?_
        exact TO.up1 6 0 rfl rfl rfl rfl
    refine TO.s rfl rfl rfl (StepS.move rfl) ?_
    obtain ⟨b78, hj79, hm⟩ := bind_some hm
    refine TO.mid1 6 62 (.bool b78) ?_ ?_
    · refine bcase (b73) (fun hb77 => ?_) (fun hb77 => ?_)
      · replace hj79 := cond_t hb77 hj79
        refine TO.sw rfl rfl rfl hb77 rfl rfl (StepS.fld rfl kfieldB_87_4_4_true) ?_
        refine TO.sw rfl rfl rfl hb77 rfl rfl (StepS.ldB rfl (Ent.at 6 rfl) kscalB_85_true rfl) ?_
        refine TO.sw rfl rfl rfl hb77 rfl rfl (StepS.fld rfl kfieldB_87_4_4_true) ?_
        refine TO.sw rfl rfl rfl hb77 rfl rfl (StepS.ldB rfl (Ent.at 5 rfl) kscalB_85_true rfl) ?_
        obtain ⟨r80, hc81, hj79⟩ := bind_some hj79
        refine TO.qw rfl rfl rfl hb77 rfl rfl (StepQ.call kcallB_43_true rfl rfl (fun _ st => C43 (OwnS.rd (Ent.at 11 rfl)) (OwnS.rd (Ent.at 4 rfl)) hc81 st)) ?_
        cases hj79
        refine TO.s rfl rfl rfl (StepS.pickT rfl hb77 rfl) ?_
        exact TO.up1 6 0 rfl rfl rfl rfl
      · replace hj79 := cond_f hb77 hj79
        cases hj79
        refine TO.skip rfl rfl rfl (skipF hb77) rfl rfl ?_
        refine TO.skip rfl rfl rfl (skipF hb77) rfl rfl ?_
        refine TO.skip rfl rfl rfl (skipF hb77) rfl rfl ?_
        refine TO.skip rfl rfl rfl (skipF hb77) rfl rfl ?_
        refine TO.skip rfl rfl rfl (skipF hb77) rfl rfl ?_
        refine TO.s rfl rfl rfl (StepS.pickF rfl hb77 rfl) ?_
        exact TO.up1 6 0 rfl rfl rfl rfl
    refine TO.s rfl rfl rfl (StepS.assign rfl) ?_
    refine TO.code ?_
    cases hm
    refine TC.ret fun a w e s => ?_
    refine FRet.mk1 (P := Try.prog) (fn := Try.f12) (t := 4) e rfl rfl ?_
    exact ⟨rfl, s.mono fun _ => Sat.dropN 12⟩
end Go.Proofs.Ythfkdepcnhhepaa
