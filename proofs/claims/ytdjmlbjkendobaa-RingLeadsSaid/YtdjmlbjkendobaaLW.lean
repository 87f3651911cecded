/-
  The walks: each Go function returns what its model says. Written by a program (gen.py).
-/
import Derived.Test.YtdjmlbjkendobaaProg
import Derived.KernelRfl
import Derived.Test.YtdjmlbjkendobaaLM
namespace Go.Proofs.Ytdjmlbjkendobaa
open Go Go.Bk
set_option linter.unusedVariables false
set_option linter.unnecessarySimpa false
theorem ksliceB_22_3_1_true : sliceB Try.prog 22 3 1 = true := by kernel_rfl
theorem kscalB_3_true : scalB Try.prog 3 = true := by kernel_rfl
theorem kcallB_91_true : callB Try.prog 91 = true := by kernel_rfl
theorem kcallB_80_true : callB Try.prog 80 = true := by kernel_rfl
theorem ksliceB_53_4_1_true : sliceB Try.prog 53 4 1 = true := by kernel_rfl
theorem kscalB_4_true : scalB Try.prog 4 = true := by kernel_rfl
theorem kunderlying_4_some_bool : Try.prog.underlying 4 = some .bool := by kernel_rfl
theorem kcallB_81_true : callB Try.prog 81 = true := by kernel_rfl
theorem kelemB_53_4_1_1_true : elemB Try.prog 53 4 1 1 = true := by kernel_rfl
theorem kcallB_55_true : callB Try.prog 55 = true := by kernel_rfl
theorem kcallB_58_true : callB Try.prog 58 = true := by kernel_rfl
theorem kcallB_59_true : callB Try.prog 59 = true := by kernel_rfl
theorem kunderlying_3_some_int_i64 : Try.prog.underlying 3 = some (.int .i64) := by kernel_rfl
theorem kfollows_mixedOrders_true : Try.prog.follows .mixedOrders = true := by kernel_rfl
theorem kmapGB_88_3_3_true : mapGB Try.prog 88 3 3 = true := by kernel_rfl
theorem ksizeB_4_1_true : sizeB Try.prog 4 1 = true := by kernel_rfl
theorem kinfo_4_bind_zero_some_bool_false : (Try.prog.info? 4).bind (·.zero) = some (.bool false) := by kernel_rfl
theorem kelemB_22_3_1_8_true : elemB Try.prog 22 3 1 8 = true := by kernel_rfl
theorem kinfo_3_bind_zero_some_I_0 : (Try.prog.info? 3).bind (·.zero) = some (I 0) := by kernel_rfl
theorem ksizeB_3_1_true : sizeB Try.prog 3 1 = true := by kernel_rfl
theorem kcallB_34_true : callB Try.prog 34 = true := by kernel_rfl
theorem kcallB_31_true : callB Try.prog 31 = true := by kernel_rfl
theorem kcallB_35_true : callB Try.prog 35 = true := by kernel_rfl

set_option maxRecDepth 100000 in
theorem C91 {B : World} {L : List HP} {a0 : List Int} {a1 : Int} {h0 : Value} {r0 : Int} (e0 : Ent L (Rd 1 h0 (a0.map cI))) (hm : F91 a0 a1 = some r0) {w : World} (st : St B L w) : Calls Try.prog 91 #[h0, I a1] w (fun e w' => (e = .returned (I r0) ∧ St B (L) w')) := by
  refine calls_of (N := 19) (L := L) (args := [h0, I a1]) Try.func91 rfl rfl rfl ?_ st
  dsimp only [F91] at hm
  refine TC.k ?_
  refine TC.region ?_
  refine TO.s rfl rfl rfl (StepS.assign rfl) ?_
  refine TO.code ?_
  refine TC.k ?_
  refine TC.k ?_
  refine TC.region ?_
  refine TO.s rfl rfl rfl (StepS.move rfl) ?_
  refine TO.s rfl rfl rfl (StepS.lenm rfl e0 ksliceB_22_3_1_true rfl) ?_
  refine TO.s rfl rfl rfl (StepS.move rfl) ?_
  refine TO.code ?_
  obtain ⟨o3, hw4, hm⟩ := bind_some hm
  refine TC.loop hw4 (fun x1 => fun a w => Mid 19 B [(0, h0), (1, I a1), (7, I (a0.length : Int)), (8, I x1)] (L) a w) (fun _ => fun a w => Mid 19 B [] (L) a w) (fun r0 => FRet Try.prog Try.f91 (fun e w' => (e = .returned (I r0) ∧ St B (L) w'))) ?_ ?_ ?_ ?_
  · rintro x1 o3r hb5 a w ⟨he, hs⟩
    dsimp only [F91_L0] at hb5
    refine TC.use ?_ he hs
    refine TC.k ?_
    refine TC.region ?_
    refine TO.s rfl rfl rfl (StepS.cmp rfl rfl rfl) ?_
    refine TO.code ?_
    refine TC.k ?_
    refine TC.cond rfl (fun hc6 => ?_) (fun hc6 => ?_)
    · replace hb5 := cond_t hc6 hb5
      refine TC.skipk ?_
      refine TC.k ?_
      refine TC.block ?_
      refine TC.k ?_
      refine TC.region ?_
      refine TO.s rfl rfl rfl (StepS.move rfl) ?_
      refine TO.s rfl rfl rfl (StepS.assign rfl) ?_
      refine TO.code ?_
      refine TC.k ?_
      refine TC.region ?_
      refine TO.s rfl rfl rfl (StepS.move rfl) ?_
      refine TO.s rfl rfl rfl (StepS.move rfl) ?_
      refine TO.s rfl rfl rfl (StepS.move rfl) ?_
      obtain ⟨x7, hx8, hb5⟩ := bind_some hb5
      refine TO.s rfl rfl rfl (StepS.idx rfl rfl e0 ksliceB_22_3_1_true (idx_spec hx8).1 (idxm_lt hx8)) ?_
      refine TO.s rfl rfl rfl (StepS.ld0 rfl e0 kscalB_3_true rfl (idxm hx8) rfl) ?_
      refine TO.s rfl rfl rfl (StepS.cmp rfl rfl rfl) ?_
      refine TO.code ?_
      refine TC.cond rfl (fun hc9 => ?_) (fun hc9 => ?_)
      · replace hb5 := cond_t hc9 hb5
        refine TC.k ?_
        refine TC.region ?_
        refine TO.s rfl rfl rfl (StepS.move rfl) ?_
        refine TO.s rfl rfl rfl (StepS.assign rfl) ?_
        refine TO.code ?_
        cases hb5
        refine TC.ret fun a w e s => ?_
        refine FRet.mk1 (P := Try.prog) (fn := Try.f91) (t := 4) e rfl rfl ?_
        exact ⟨rfl, s.mono fun _ => Sat.dropN 0⟩
      · replace hb5 := cond_f hc9 hb5
        refine TC.skipk ?_
        refine TC.region ?_
        refine TO.s rfl rfl rfl (StepS.ari rfl rfl rfl) ?_
        refine TO.s rfl rfl rfl (StepS.move rfl) ?_
        cases hb5
        refine TO.nil fun a w e s => ?_
        exact ⟨e.sub (lk_of_allIn ⟨rfl, rfl, rfl, rfl, trivial⟩), s⟩
    · replace hb5 := cond_f hc6 hb5
      cases hb5
      refine TC.exit rfl fun a w e s => ?_
      exact ⟨e.sub (lk_of_allIn trivial), s⟩
  · exact fun a w e s => ⟨e.sub (lk_of_allIn ⟨rfl, rfl, rfl, rfl, trivial⟩), s⟩
  · rintro _ rfl a w ⟨he, hs⟩
    dsimp only [Ctl.on] at hm
    refine TC.use ?_ he hs
    refine TC.k ?_
    refine TC.region ?_
    refine TO.s rfl rfl rfl (StepS.assign rfl) ?_
    refine TO.code ?_
    cases hm
    refine TC.ret fun a w e s => ?_
    refine FRet.mk1 (P := Try.prog) (fn := Try.f91) (t := 4) e rfl rfl ?_
    exact ⟨rfl, s.mono fun _ => Sat.dropN 0⟩
  · rintro r rfl
    cases hm
    exact fun a w h => h

set_option maxRecDepth 100000 in
theorem C80 {B : World} {L : List HP} {a0 : List Int} {a1 : Int} {h0 : Value} {r0 : Bool} (e0 : Ent L (Rd 1 h0 (a0.map cI))) (hm : F80 a0 a1 = some r0) {w : World} (st : St B L w) : Calls Try.prog 80 #[h0, I a1] w (fun e w' => (e = .returned (.bool r0) ∧ St B (L) w')) := by
  refine calls_of (N := 9) (L := L) (args := [h0, I a1]) Try.func80 rfl rfl rfl ?_ st
  dsimp only [F80] at hm
  refine TC.k ?_
  refine TC.region ?_
  refine TO.s rfl rfl rfl (StepS.assign rfl) ?_
  refine TO.code ?_
  refine TC.k ?_
  refine TC.region ?_
  refine TO.s rfl rfl rfl (StepS.move rfl) ?_
  refine TO.s rfl rfl rfl (StepS.move rfl) ?_
  obtain ⟨r1, hc2, hm⟩ := bind_some hm
  refine TO.q rfl rfl rfl (StepQ.call kcallB_91_true rfl rfl (fun _ st => C91 e0 hc2 st)) ?_
  refine TO.s rfl rfl rfl (StepS.cmp rfl rfl rfl) ?_
  refine TO.s rfl rfl rfl (StepS.assign rfl) ?_
  refine TO.code ?_
  cases hm
  refine TC.ret fun a w e s => ?_
  refine FRet.mk1 (P := Try.prog) (fn := Try.f80) (t := 4) e rfl rfl ?_
  exact ⟨rfl, s.mono fun _ => Sat.dropN 0⟩

set_option maxRecDepth 100000 in
theorem C55 {B : World} {L : List HP} {a0 : List Int} {h0 : Value} {r0 : Int} (e0 : Ent L (Rd 1 h0 (a0.map cI))) (hm : F55 a0 = some r0) {w : World} (st : St B L w) : Calls Try.prog 55 #[h0] w (fun e w' => (e = .returned (I r0) ∧ St B (L) w')) := by
  refine calls_of (N := 26) (L := L) (args := [h0]) Try.func55 rfl rfl rfl ?_ st
  dsimp only [F55] at hm
  refine TC.k ?_
  refine TC.region ?_
  refine TO.s rfl rfl rfl (StepS.assign rfl) ?_
  refine TO.code ?_
  refine TC.k ?_
  refine TC.k ?_
  refine TC.region ?_
  refine TO.s rfl rfl rfl (StepS.move rfl) ?_
  refine TO.s rfl rfl rfl (StepS.lenm rfl e0 ksliceB_22_3_1_true rfl) ?_
  refine TO.s rfl rfl rfl (StepS.cmp rfl rfl rfl) ?_
  refine TO.s rfl rfl rfl (StepS.move rfl) ?_
  refine TO.mid1 4 12 (.bool ((decide ((a0.length : Int) < 1)) || (decide ((a0.length : Int) > 12)))) ?_ ?_
  · refine bcase ((decide ((a0.length : Int) < 1))) (fun hb1 => ?_) (fun hb1 => ?_)
    · refine TO.skip rfl rfl rfl (skipT hb1) rfl rfl ?_
      refine TO.skip rfl rfl rfl (skipT hb1) rfl rfl ?_
      refine TO.skip rfl rfl rfl (skipT hb1) rfl rfl ?_
      refine TO.s rfl rfl rfl (StepS.pickT rfl hb1 rfl) ?_
      exact TO.up1 4 0 rfl rfl (by rw [hb1]; rfl) rfl
    · refine TO.sw rfl rfl rfl hb1 rfl rfl (StepS.move rfl) ?_
      refine TO.sw rfl rfl rfl hb1 rfl rfl (StepS.lenm rfl e0 ksliceB_22_3_1_true rfl) ?_
      refine TO.sw rfl rfl rfl hb1 rfl rfl (StepS.cmp rfl rfl rfl) ?_
      refine TO.s rfl rfl rfl (StepS.pickF rfl hb1 rfl) ?_
      exact TO.up1 4 0 rfl rfl (by rw [hb1]; rfl) rfl
  refine TO.code ?_
  refine TC.cond rfl (fun hc2 => ?_) (fun hc2 => ?_)
  · replace hm := cond_t hc2 hm
    refine TC.k ?_
    refine TC.region ?_
    refine TO.s rfl rfl rfl (StepS.assign rfl) ?_
    refine TO.code ?_
    cases hm
    refine TC.ret fun a w e s => ?_
    refine FRet.mk1 (P := Try.prog) (fn := Try.f55) (t := 2) e rfl rfl ?_
    exact ⟨rfl, s.mono fun _ => Sat.dropN 0⟩
  · replace hm := cond_f hc2 hm
    refine TC.skipk ?_
    refine TC.k ?_
    refine TC.k ?_
    refine TC.region ?_
    refine TO.s rfl rfl rfl (StepS.move rfl) ?_
    refine TO.s rfl rfl rfl (StepS.lenm rfl e0 ksliceB_22_3_1_true rfl) ?_
    refine TO.s rfl rfl rfl (StepS.move rfl) ?_
    refine TO.code ?_
    obtain ⟨o5, hw6, hm⟩ := bind_some hm
    refine TC.loop hw6 (fun x3 => fun a w => Mid 26 B [(0, h0), (13, h0), (14, I (a0.length : Int)), (15, I x3)] (L) a w) (fun _ => fun a w => Mid 26 B [] (L) a w) (fun r0 => FRet Try.prog Try.f55 (fun e w' => (e = .returned (I r0) ∧ St B (L) w'))) ?_ ?_ ?_ ?_
    · rintro x3 o5r hb7 a w ⟨he, hs⟩
      dsimp only [F55_L0] at hb7
      refine TC.use ?_ he hs
      refine TC.k ?_
      refine TC.region ?_
      refine TO.s rfl rfl rfl (StepS.cmp rfl rfl rfl) ?_
      refine TO.code ?_
      refine TC.k ?_
      refine TC.cond rfl (fun hc8 => ?_) (fun hc8 => ?_)
      · replace hb7 := cond_t hc8 hb7
        refine TC.skipk ?_
        refine TC.k ?_
        refine TC.block ?_
        refine TC.k ?_
        refine TC.region ?_
        refine TO.s rfl rfl rfl (StepS.move rfl) ?_
        obtain ⟨x9, hx10, hb7⟩ := bind_some hb7
        refine TO.s rfl rfl rfl (StepS.idx rfl rfl e0 ksliceB_22_3_1_true (idx_spec hx10).1 (idxm_lt hx10)) ?_
        refine TO.s rfl rfl rfl (StepS.ld0 rfl e0 kscalB_3_true rfl (idxm hx10) rfl) ?_
        refine TO.s rfl rfl rfl (StepS.assign rfl) ?_
        refine TO.s rfl rfl rfl (StepS.assign rfl) ?_
        refine TO.code ?_
        refine TC.k ?_
        refine TC.region ?_
        refine TO.s rfl rfl rfl (StepS.move rfl) ?_
        refine TO.s rfl rfl rfl (StepS.move rfl) ?_
        obtain ⟨y11, hs12, hb7⟩ := bind_some hb7
        obtain ⟨hs12a, hs12b, hs12c, _⟩ := slI_spec hs12
        refine TO.s rfl rfl rfl (StepS.slc rfl e0 ksliceB_22_3_1_true rfl rfl hs12a hs12b (by simpa using hs12c)) ?_
        refine TO.s rfl rfl rfl (StepS.move rfl) ?_
        obtain ⟨r14, hc15, hb7⟩ := bind_some hb7
        refine TO.q rfl rfl rfl (StepQ.call kcallB_80_true rfl rfl (fun _ st => C80 (Ent.sub e0 hs12) hc15 st)) ?_
        refine TO.code ?_
        refine TC.cond rfl (fun hc16 => ?_) (fun hc16 => ?_)
        · replace hb7 := cond_t hc16 hb7
          refine TC.k ?_
          refine TC.region ?_
          refine TO.s rfl rfl rfl (StepS.assign rfl) ?_
          refine TO.code ?_
          cases hb7
          refine TC.ret fun a w e s => ?_
          refine FRet.mk1 (P := Try.prog) (fn := Try.f55) (t := 2) e rfl rfl ?_
          exact ⟨rfl, s.mono fun _ => Sat.dropN 0⟩
        · replace hb7 := cond_f hc16 hb7
          refine TC.skipk ?_
          refine TC.region ?_
          refine TO.s rfl rfl rfl (StepS.ari rfl rfl rfl) ?_
          refine TO.s rfl rfl rfl (StepS.move rfl) ?_
          cases hb7
          refine TO.nil fun a w e s => ?_
          exact ⟨e.sub (lk_of_allIn ⟨rfl, rfl, rfl, rfl, trivial⟩), s⟩
      · replace hb7 := cond_f hc8 hb7
        cases hb7
        refine TC.exit rfl fun a w e s => ?_
        exact ⟨e.sub (lk_of_allIn trivial), s⟩
    · exact fun a w e s => ⟨e.sub (lk_of_allIn ⟨rfl, rfl, rfl, rfl, trivial⟩), s⟩
    · rintro _ rfl a w ⟨he, hs⟩
      dsimp only [Ctl.on] at hm
      refine TC.use ?_ he hs
      refine TC.k ?_
      refine TC.region ?_
      refine TO.s rfl rfl rfl (StepS.assign rfl) ?_
      refine TO.code ?_
      cases hm
      refine TC.ret fun a w e s => ?_
      refine FRet.mk1 (P := Try.prog) (fn := Try.f55) (t := 2) e rfl rfl ?_
      exact ⟨rfl, s.mono fun _ => Sat.dropN 0⟩
    · rintro r rfl
      cases hm
      exact fun a w h => h

set_option maxRecDepth 100000 in
theorem C81 {B : World} {L : List HP} {a0 : List Bool} {a1 : Bool} {h0 : Value} {r0 : Int} (e0 : Ent L (Rd 1 h0 (a0.map cB))) (hm : F81 a0 a1 = some r0) {w : World} (st : St B L w) : Calls Try.prog 81 #[h0, .bool a1] w (fun e w' => (e = .returned (I r0) ∧ St B (L) w')) := by
  refine calls_of (N := 19) (L := L) (args := [h0, .bool a1]) Try.func81 rfl rfl rfl ?_ st
  dsimp only [F81] at hm
  refine TC.k ?_
  refine TC.region ?_
  refine TO.s rfl rfl rfl (StepS.assign rfl) ?_
  refine TO.code ?_
  refine TC.k ?_
  refine TC.k ?_
  refine TC.region ?_
  refine TO.s rfl rfl rfl (StepS.move rfl) ?_
  refine TO.s rfl rfl rfl (StepS.lenm rfl e0 ksliceB_53_4_1_true rfl) ?_
  refine TO.s rfl rfl rfl (StepS.move rfl) ?_
  refine TO.code ?_
  obtain ⟨o3, hw4, hm⟩ := bind_some hm
  refine TC.loop hw4 (fun x1 => fun a w => Mid 19 B [(0, h0), (1, .bool a1), (7, I (a0.length : Int)), (8, I x1)] (L) a w) (fun _ => fun a w => Mid 19 B [] (L) a w) (fun r0 => FRet Try.prog Try.f81 (fun e w' => (e = .returned (I r0) ∧ St B (L) w'))) ?_ ?_ ?_ ?_
  · rintro x1 o3r hb5 a w ⟨he, hs⟩
    dsimp only [F81_L0] at hb5
    refine TC.use ?_ he hs
    refine TC.k ?_
    refine TC.region ?_
    refine TO.s rfl rfl rfl (StepS.cmp rfl rfl rfl) ?_
    refine TO.code ?_
    refine TC.k ?_
    refine TC.cond rfl (fun hc6 => ?_) (fun hc6 => ?_)
    · replace hb5 := cond_t hc6 hb5
      refine TC.skipk ?_
      refine TC.k ?_
      refine TC.block ?_
      refine TC.k ?_
      refine TC.region ?_
      refine TO.s rfl rfl rfl (StepS.move rfl) ?_
      refine TO.s rfl rfl rfl (StepS.assign rfl) ?_
      refine TO.code ?_
      refine TC.k ?_
      refine TC.region ?_
      refine TO.s rfl rfl rfl (StepS.move rfl) ?_
      refine TO.s rfl rfl rfl (StepS.move rfl) ?_
      refine TO.s rfl rfl rfl (StepS.move rfl) ?_
      obtain ⟨x7, hx8, hb5⟩ := bind_some hb5
      refine TO.s rfl rfl rfl (StepS.idx rfl rfl e0 ksliceB_53_4_1_true (idx_spec hx8).1 (idxm_lt hx8)) ?_
      refine TO.s rfl rfl rfl (StepS.ld0 rfl e0 kscalB_4_true rfl (idxm hx8) rfl) ?_
      refine TO.s rfl rfl rfl (StepS.eqB kunderlying_4_some_bool rfl rfl) ?_
      refine TO.code ?_
      refine TC.cond rfl (fun hc9 => ?_) (fun hc9 => ?_)
      · replace hb5 := cond_t hc9 hb5
        refine TC.k ?_
        refine TC.region ?_
        refine TO.s rfl rfl rfl (StepS.move rfl) ?_
        refine TO.s rfl rfl rfl (StepS.assign rfl) ?_
        refine TO.code ?_
        cases hb5
        refine TC.ret fun a w e s => ?_
        refine FRet.mk1 (P := Try.prog) (fn := Try.f81) (t := 4) e rfl rfl ?_
        exact ⟨rfl, s.mono fun _ => Sat.dropN 0⟩
      · replace hb5 := cond_f hc9 hb5
        refine TC.skipk ?_
        refine TC.region ?_
        refine TO.s rfl rfl rfl (StepS.ari rfl rfl rfl) ?_
        refine TO.s rfl rfl rfl (StepS.move rfl) ?_
        cases hb5
        refine TO.nil fun a w e s => ?_
        exact ⟨e.sub (lk_of_allIn ⟨rfl, rfl, rfl, rfl, trivial⟩), s⟩
    · replace hb5 := cond_f hc6 hb5
      cases hb5
      refine TC.exit rfl fun a w e s => ?_
      exact ⟨e.sub (lk_of_allIn trivial), s⟩
  · exact fun a w e s => ⟨e.sub (lk_of_allIn ⟨rfl, rfl, rfl, rfl, trivial⟩), s⟩
  · rintro _ rfl a w ⟨he, hs⟩
    dsimp only [Ctl.on] at hm
    refine TC.use ?_ he hs
    refine TC.k ?_
    refine TC.region ?_
    refine TO.s rfl rfl rfl (StepS.assign rfl) ?_
    refine TO.code ?_
    cases hm
    refine TC.ret fun a w e s => ?_
    refine FRet.mk1 (P := Try.prog) (fn := Try.f81) (t := 4) e rfl rfl ?_
    exact ⟨rfl, s.mono fun _ => Sat.dropN 0⟩
  · rintro r rfl
    cases hm
    exact fun a w h => h

set_option maxRecDepth 100000 in
theorem C58 {B : World} {L : List HP} {a0 : List Bool} {a1 : Bool} {h0 : Value} {r0 : Bool} (e0 : Ent L (Rd 1 h0 (a0.map cB))) (hm : F58 a0 a1 = some r0) {w : World} (st : St B L w) : Calls Try.prog 58 #[h0, .bool a1] w (fun e w' => (e = .returned (.bool r0) ∧ St B (L) w')) := by
  refine calls_of (N := 9) (L := L) (args := [h0, .bool a1]) Try.func58 rfl rfl rfl ?_ st
  dsimp only [F58] at hm
  refine TC.k ?_
  refine TC.region ?_
  refine TO.s rfl rfl rfl (StepS.assign rfl) ?_
  refine TO.code ?_
  refine TC.k ?_
  refine TC.region ?_
  refine TO.s rfl rfl rfl (StepS.move rfl) ?_
  refine TO.s rfl rfl rfl (StepS.move rfl) ?_
  obtain ⟨r1, hc2, hm⟩ := bind_some hm
  refine TO.q rfl rfl rfl (StepQ.call kcallB_81_true rfl rfl (fun _ st => C81 e0 hc2 st)) ?_
  refine TO.s rfl rfl rfl (StepS.cmp rfl rfl rfl) ?_
  refine TO.s rfl rfl rfl (StepS.assign rfl) ?_
  refine TO.code ?_
  cases hm
  refine TC.ret fun a w e s => ?_
  refine FRet.mk1 (P := Try.prog) (fn := Try.f58) (t := 4) e rfl rfl ?_
  exact ⟨rfl, s.mono fun _ => Sat.dropN 0⟩

set_option maxRecDepth 100000 in
theorem C59 {B : World} {L : List HP} {a0 : List Bool} {h0 : Value} {r0 : List Bool} (e0 : Ent L (Rd 1 h0 (a0.map cB))) (hm : F59 a0 = some r0) {w : World} (st : St B L w) : Calls Try.prog 59 #[h0] w (fun e w' => ∃ v M, e = .returned v ∧ (∃ (qr0 : Value), v = qr0 ∧ M = (OwnS 4 1 qr0 (r0.map cB) :: L)) ∧ St B M w') := by
  refine calls_of (N := 8) (L := L) (args := [h0]) Try.func59 rfl rfl rfl ?_ st
  dsimp only [F59] at hm
  refine TC.k ?_
  refine TC.region ?_
  refine TO.s rfl rfl rfl (StepS.assign rfl) ?_
  refine TO.code ?_
  refine TC.k ?_
  refine TC.k ?_
  refine TC.region ?_
  refine TO.s rfl rfl rfl (StepS.move rfl) ?_
  refine TO.nilck rfl e0 ksliceB_53_4_1_true rfl fun b hb => ?_
  refine TO.code ?_
  refine TC.cond rfl (fun hc => ?_) (fun hc => ?_)
  · have hn : a0 = [] := by simpa using hb hc
    subst hn
    have hr : r0 = [] := by simpa using (appl_spec hm).2.2
    subst hr
    refine TC.k ?_
    refine TC.region ?_
    refine TO.s rfl rfl rfl (StepS.assign rfl) ?_
    refine TO.code ?_
    refine TC.ret fun a w e s => ?_
    refine FRet.mk1 (P := Try.prog) (fn := Try.f59) (t := 2) e rfl rfl ?_
    exact ⟨_, _, rfl, ⟨_, rfl, rfl⟩, s.mono fun _ s => Sat.nilS s⟩
  · refine TC.skipk ?_
    refine TC.k ?_
    refine TC.region ?_
    refine TO.lit0 (f := cB) ksliceB_53_4_1_true rfl fun v1 => ?_
    refine TO.s rfl rfl rfl (StepS.move rfl) ?_
    refine TO.app (k := 0) (f := cB) kelemB_53_4_1_1_true (by decide) rfl rfl rfl e0.tl hm (fun x c hc => by simp [Value.oneCell'] at hc ⊢; first | (obtain rfl := hc; rfl) | (rcases hc with rfl <;> rfl)) rfl rfl fun v2 => ?_
    refine TO.s rfl rfl rfl (StepS.assign rfl) ?_
    refine TO.code ?_
    refine TC.ret fun a w e s => ?_
    refine FRet.mk1 (P := Try.prog) (fn := Try.f59) (t := 2) e rfl rfl ?_
    exact ⟨_, _, rfl, ⟨_, rfl, rfl⟩, s⟩

set_option maxRecDepth 100000 in
theorem C34 {B : World} {L : List HP} {a0 : List Int} {a1 : List Bool} {h0 : Value} {h1 : Value} {r0 : Int} {r1 : Int} {r2 : Int} (e0 : Ent L (Rd 1 h0 (a0.map cI))) (e1 : Ent L (Rd 1 h1 (a1.map cB))) (hm : F34 a0 a1 = some (r0, r1, r2)) {w : World} (st : St B L w) : Calls Try.prog 34 #[h0, h1] w (fun e w' => (e = .returned (.tuple #[I r0, I r1, I r2]) ∧ St B (L) w')) := by
  refine calls_of (N := 99) (L := L) (args := [h0, h1]) Try.func34 rfl rfl rfl ?_ st
  dsimp only [F34] at hm
  refine TC.k ?_
  refine TC.region ?_
  refine TO.s rfl rfl rfl (StepS.assign rfl) ?_
  refine TO.s rfl rfl rfl (StepS.assign rfl) ?_
  refine TO.s rfl rfl rfl (StepS.assign rfl) ?_
  refine TO.code ?_
  refine TC.k ?_
  refine TC.k ?_
  refine TC.region ?_
  refine TO.s rfl rfl rfl (StepS.move rfl) ?_
  obtain ⟨r1, hc2, hm⟩ := bind_some hm
  refine TO.q rfl rfl rfl (StepQ.call kcallB_55_true rfl rfl (fun _ st => C55 e0 hc2 st)) ?_
  refine TO.s rfl rfl rfl (StepS.assign rfl) ?_
  refine TO.code ?_
  refine TC.k ?_
  refine TC.region ?_
  refine TO.s rfl rfl rfl (StepS.move rfl) ?_
  refine TO.s rfl rfl rfl (StepS.cmp rfl rfl rfl) ?_
  refine TO.code ?_
  refine TC.cond rfl (fun hc3 => ?_) (fun hc3 => ?_)
  · replace hm := cond_t hc3 hm
    refine TC.k ?_
    refine TC.region ?_
    refine TO.s rfl rfl rfl (StepS.move rfl) ?_
    refine TO.s rfl rfl rfl (StepS.assign rfl) ?_
    refine TO.s rfl rfl rfl (StepS.assign rfl) ?_
    refine TO.s rfl rfl rfl (StepS.assign rfl) ?_
    refine TO.code ?_
    cases hm
    refine TC.ret fun a w e s => ?_
    refine FRet.mk3 (P := Try.prog) (fn := Try.f34) (t := 4) (u := 5) (s := 6) e rfl rfl rfl rfl ?_
    exact ⟨rfl, s.mono fun _ => Sat.dropN 0⟩
  · replace hm := cond_f hc3 hm
    refine TC.skipk ?_
    refine TC.k ?_
    refine TC.k ?_
    refine TC.region ?_
    refine TO.s rfl rfl rfl (StepS.move rfl) ?_
    refine TO.s rfl rfl rfl (StepS.lenm rfl e1 ksliceB_53_4_1_true rfl) ?_
    refine TO.s rfl rfl rfl (StepS.move rfl) ?_
    refine TO.s rfl rfl rfl (StepS.lenm rfl e0 ksliceB_22_3_1_true rfl) ?_
    refine TO.s rfl rfl rfl (StepS.cmp rfl rfl rfl) ?_
    refine TO.code ?_
    refine TC.cond rfl (fun hc4 => ?_) (fun hc4 => ?_)
    · replace hm := cond_t hc4 hm
      refine TC.k ?_
      refine TC.region ?_
      refine TO.s rfl rfl rfl (StepS.assign rfl) ?_
      refine TO.s rfl rfl rfl (StepS.assign rfl) ?_
      refine TO.s rfl rfl rfl (StepS.assign rfl) ?_
      refine TO.code ?_
      cases hm
      refine TC.ret fun a w e s => ?_
      refine FRet.mk3 (P := Try.prog) (fn := Try.f34) (t := 4) (u := 5) (s := 6) e rfl rfl rfl rfl ?_
      exact ⟨rfl, s.mono fun _ => Sat.dropN 0⟩
    · replace hm := cond_f hc4 hm
      refine TC.skipk ?_
      refine TC.k ?_
      refine TC.k ?_
      refine TC.region ?_
      refine TO.s rfl rfl rfl (StepS.move rfl) ?_
      obtain ⟨r5, hc6, hm⟩ := bind_some hm
      refine TO.q rfl rfl rfl (StepQ.call kcallB_58_true rfl rfl (fun _ st => C58 e1 hc6 st)) ?_
      refine TO.s rfl rfl rfl (StepS.not rfl) ?_
      refine TO.code ?_
      refine TC.cond rfl (fun hc7 => ?_) (fun hc7 => ?_)
      · replace hm := cond_t hc7 hm
        refine TC.k ?_
        refine TC.region ?_
        refine TO.s rfl rfl rfl (StepS.assign rfl) ?_
        refine TO.s rfl rfl rfl (StepS.assign rfl) ?_
        refine TO.s rfl rfl rfl (StepS.assign rfl) ?_
        refine TO.code ?_
        cases hm
        refine TC.ret fun a w e s => ?_
        refine FRet.mk3 (P := Try.prog) (fn := Try.f34) (t := 4) (u := 5) (s := 6) e rfl rfl rfl rfl ?_
        exact ⟨rfl, s.mono fun _ => Sat.dropN 0⟩
      · replace hm := cond_f hc7 hm
        refine TC.skipk ?_
        refine TC.k ?_
        refine TC.region ?_
        refine TO.s rfl rfl rfl (StepS.move rfl) ?_
        refine TO.s rfl rfl rfl (StepS.lenm rfl e0 ksliceB_22_3_1_true rfl) ?_
        refine TO.s rfl rfl rfl (StepS.assign rfl) ?_
        refine TO.code ?_
        refine TC.k ?_
        refine TC.region ?_
        refine TO.s rfl rfl rfl (StepS.move rfl) ?_
        obtain ⟨r8, hc9, hm⟩ := bind_some hm
        refine TO.callO kcallB_59_true rfl rfl rfl (fun _ st => C59 e1 hc9 st) ?_
        rintro v10 _ ⟨_, rfl, rfl⟩
        refine TO.s rfl rfl rfl (StepS.assign rfl) ?_
        refine TO.code ?_
        refine TC.k ?_
        refine TC.region ?_
        refine TO.mkMF (kf := (fun k : Int => I k)) (vf := (fun x : Int => I x)) rfl fun r12 => ?_
        refine TO.s rfl rfl rfl (StepS.assign rfl) ?_
        refine TO.code ?_
        refine TC.k ?_
        refine TC.k ?_
        refine TC.region ?_
        refine TO.s rfl rfl rfl (StepS.move rfl) ?_
        refine TO.s rfl rfl rfl (StepS.lenm rfl e1.tl.tl ksliceB_53_4_1_true rfl) ?_
        refine TO.s rfl rfl rfl (StepS.move rfl) ?_
        refine TO.code ?_
        obtain ⟨o19, hw20, hm⟩ := bind_some hm
        refine TC.loop hw20 (fun (y14, x15) => fun a w => Mid 99 B [(0, h0), (8, I (a0.length : Int)), (9, v10), (10, .map (some r12)), (35, h1), (36, I (a1.length : Int)), (37, I x15)] (MF (fun k : Int => I k) (fun x : Int => I x) r12 (y14) :: OwnS 4 1 v10 (r8.map cB) :: L) a w) (fun y18 => fun a w => Mid 99 B [(0, h0), (8, I (a0.length : Int)), (9, v10), (10, .map (some r12))] (MF (fun k : Int => I k) (fun x : Int => I x) r12 (y18) :: OwnS 4 1 v10 (r8.map cB) :: L) a w) (fun (_ : Unit) _ _ => False) ?_ ?_ ?_ ?_
        · rintro ⟨y14, x15⟩ o19r hb21 a w ⟨he, hs⟩
          dsimp only [F34_L0] at hb21
          refine TC.use ?_ he hs
          refine TC.k ?_
          refine TC.region ?_
          refine TO.s rfl rfl rfl (StepS.cmp rfl rfl rfl) ?_
          refine TO.code ?_
          refine TC.k ?_
          refine TC.cond rfl (fun hc22 => ?_) (fun hc22 => ?_)
          · replace hb21 := cond_t hc22 hb21
            refine TC.skipk ?_
            refine TC.k ?_
            obtain ⟨y23, hj24, hb21⟩ := bind_some hb21
            first | refine TC.cutM (fun a w => Mid 99 B [(0, h0), (8, I (a0.length : Int)), (9, v10), (10, .map (some r12)), (35, h1), (36, I (a1.length : Int)), (37, I x15)] (MF (fun k : Int => I k) (fun x : Int => I x) r12 (y23) :: OwnS 4 1 v10 (r8.map cB) :: L) a w) ?_ ?_ | refine TC.cutX (fun a w => Mid 99 B [(0, h0), (8, I (a0.length : Int)), (9, v10), (10, .map (some r12)), (35, h1), (36, I (a1.length : Int)), (37, I x15)] (MF (fun k : Int => I k) (fun x : Int => I x) r12 (y23) :: OwnS 4 1 v10 (r8.map cB) :: L) a w) ?_ ?_
            · refine TC.block ?_
              refine TC.k ?_
              refine TC.region ?_
              refine TO.s rfl rfl rfl (StepS.move rfl) ?_
              obtain ⟨x25, hx26, hj24⟩ := bind_some hj24
              refine TO.s rfl rfl rfl (StepS.idx rfl rfl e1.tl.tl ksliceB_53_4_1_true (idx_spec hx26).1 (idxm_lt hx26)) ?_
              refine TO.s rfl rfl rfl (StepS.ld0 rfl e1.tl.tl kscalB_4_true rfl (idxm hx26) rfl) ?_
              refine TO.s rfl rfl rfl (StepS.assign rfl) ?_
              refine TO.s rfl rfl rfl (StepS.assign rfl) ?_
              refine TO.code ?_
              refine TC.k ?_
              refine TC.region ?_
              refine TO.s rfl rfl rfl (StepS.move rfl) ?_
              refine TO.code ?_
              refine TC.cond rfl (fun hc27 => ?_) (fun hc27 => ?_)
              · replace hj24 := cond_t hc27 hj24
                refine TC.region_tail 9 kfollows_mixedOrders_true (by kernel_rfl) ?_
                refine TS.s rfl rfl rfl (StepS.move rfl) ?_
                refine TS.s rfl rfl rfl (StepS.move rfl) ?_
                refine TS.s rfl rfl rfl (StepS.ari rfl rfl rfl) ?_
                refine TS.s rfl rfl rfl (StepS.move rfl) ?_
                obtain ⟨u29, hd28, hj24⟩ := bind_some hj24
                refine TS.s rfl rfl rfl (StepS.rem rfl rfl (nz_spec hd28)) ?_
                refine TS.s rfl rfl rfl (StepS.move rfl) ?_
                refine TS.s rfl rfl rfl (StepS.move rfl) ?_
                obtain ⟨x30, hx31, hj24⟩ := bind_some hj24
                refine TS.s rfl rfl rfl (StepS.idx rfl rfl e0.tl.tl ksliceB_22_3_1_true (idx_spec hx31).1 (idxm_lt hx31)) ?_
                refine TS.s rfl rfl rfl (StepS.ld0 rfl e0.tl.tl kscalB_3_true rfl (idxm hx31) rfl) ?_
                refine TS.nil ?_
                refine TO.at ?_
                refine TO.msetF (k := ((w64 (x15 + 1)).tmod (a0.length : Int))) (v := x30) 0 kmapGB_88_3_3_true (KeyOk.int kunderlying_3_some_int_i64) rfl rfl rfl rfl ?_
                cases hj24
                refine TO.nil fun a w e s => ?_
                exact ⟨e.sub (lk_of_allIn ⟨rfl, rfl, rfl, rfl, rfl, rfl, rfl, trivial⟩), s⟩
              · replace hj24 := cond_f hc27 hj24
                cases hj24
                refine TC.skip fun a w e s => ?_
                exact ⟨e.sub (lk_of_allIn ⟨rfl, rfl, rfl, rfl, rfl, rfl, rfl, trivial⟩), s⟩
            · intro a w ⟨he, hs⟩
              refine TC.use ?_ he hs
              refine TC.region ?_
              refine TO.s rfl rfl rfl (StepS.ari rfl rfl rfl) ?_
              refine TO.s rfl rfl rfl (StepS.move rfl) ?_
              cases hb21
              refine TO.nil fun a w e s => ?_
              exact ⟨e.sub (lk_of_allIn ⟨rfl, rfl, rfl, rfl, rfl, rfl, rfl, trivial⟩), s⟩
          · replace hb21 := cond_f hc22 hb21
            cases hb21
            refine TC.exit rfl fun a w e s => ?_
            exact ⟨e.sub (lk_of_allIn ⟨rfl, rfl, rfl, rfl, trivial⟩), s⟩
        · exact fun a w e s => ⟨e.sub (lk_of_allIn ⟨rfl, rfl, rfl, rfl, rfl, rfl, rfl, trivial⟩), s⟩
        · rintro y18 rfl a w ⟨he, hs⟩
          dsimp only [Ctl.on] at hm
          refine TC.use ?_ he hs
          refine TC.k ?_
          refine TC.region ?_
          refine TO.s rfl rfl rfl (StepS.move rfl) ?_
          refine TO.s rfl rfl rfl (StepS.lenF rfl (Ent.at 0 rfl) kmapGB_88_3_3_true rfl) ?_
          refine TO.s rfl rfl rfl (StepS.assign rfl) ?_
          refine TO.code ?_
          obtain ⟨o42, hw43, hm⟩ := bind_some hm
          refine TC.loop hw43 (fun (y34, y35, x36) => fun a w => ∃ r33 : Nat, Mid 99 B [(0, h0), (8, I (a0.length : Int)), (9, v10), (10, .map (some r33)), (13, I x36)] (MF (fun k : Int => I k) (fun x : Int => I x) r33 (y34) :: OwnS 4 1 v10 (y35.map cB) :: L) a w) (fun _ => fun a w => Mid 99 B [(0, h0), (8, I (a0.length : Int)), (9, v10), (10, .map (some r12)), (13, I (mlen y18 : Int))] (MF (fun k : Int => I k) (fun x : Int => I x) r12 (y18) :: OwnS 4 1 v10 (r8.map cB) :: L) a w) (fun (r0, r1, r2) => FRet Try.prog Try.f34 (fun e w' => (e = .returned (.tuple #[I r0, I r1, I r2]) ∧ St B (L) w'))) ?_ ?_ ?_ ?_
          · rintro ⟨y34, y35, x36⟩ o42r hb44 a w ⟨r33, he, hs⟩
            dsimp only [F34_L1] at hb44
            refine TC.use ?_ he hs
            refine TC.block ?_
            refine TC.k ?_
            refine TC.region ?_
            refine TO.mkMF (kf := (fun k : Int => I k)) (vf := (fun x : Int => I x)) rfl fun r45 => ?_
            refine TO.s rfl rfl rfl (StepS.assign rfl) ?_
            refine TO.code ?_
            refine TC.k ?_
            refine TC.k ?_
            refine TC.region ?_
            refine TO.s rfl rfl rfl (StepS.move rfl) ?_
            refine TO.ghost (fun _ s => Sat.front 1 rfl s) ?_
            refine TO.range kmapGB_88_3_3_true rfl rfl fun it47 => ?_
            refine TO.code ?_
            obtain ⟨o55, hw56, hb44⟩ := bind_some hb44
            refine TC.rangeM hw56 (fun q48 (y51, y52) => fun a w => Mid 99 B [(0, h0), (8, I (a0.length : Int)), (9, v10), (13, I x36), (14, .map (some r45)), (57, .pointer (some ⟨it47, 0, none⟩))] (MFR (fun k : Int => I k) (fun x : Int => I x) it47 r33 (y34) q48 :: MF (fun k : Int => I k) (fun x : Int => I x) r45 (y51) :: OwnS 4 1 v10 (y52.map cB) :: L) a w) (fun (y51, y52) => fun a w => Mid 99 B [(0, h0), (8, I (a0.length : Int)), (9, v10), (13, I x36), (14, .map (some r45))] (MF (fun k : Int => I k) (fun x : Int => I x) r33 (y34) :: MF (fun k : Int => I k) (fun x : Int => I x) r45 (y51) :: OwnS 4 1 v10 (y52.map cB) :: L) a w) (fun (r0, r1, r2) => FRet Try.prog Try.f34 (fun e w' => (e = .returned (.tuple #[I r0, I r1, I r2]) ∧ St B (L) w'))) ?_ ?_ ?_ ?_
            · rintro q48 ⟨y51, y52⟩ hb57r a w ⟨he, hs⟩
              refine TC.use ?_ he hs
              refine TC.k ?_
              refine TC.region ?_
              refine TO.next 0 rfl rfl rfl (fun hd60 => ?_) (fun k49 v50 hk58 hn59 => ?_)
              · refine TO.s rfl rfl rfl (StepS.extract rfl rfl) ?_
                refine TO.code ?_
                refine TC.k ?_
                refine TC.condF rfl ?_
                refine TC.exit rfl fun a w e s => ?_
                exact ⟨hd60, e.sub (lk_of_allIn ⟨rfl, rfl, rfl, rfl, rfl, trivial⟩), s.mono fun _ s => (by replace s := Sat.front 0 rfl s; replace s := Sat.unrange s; exact s)⟩
              · refine TO.s rfl rfl rfl (StepS.extract rfl rfl) ?_
                refine TO.code ?_
                obtain ⟨_, hb570⟩ := hb57r k49 v50 hk58 hn59
                have hb57 := hb570
                refine TC.rmore (Pre := fun q48 (y51, y52) => fun a w => Mid 99 B [(0, h0), (8, I (a0.length : Int)), (9, v10), (13, I x36), (14, .map (some r45)), (57, .pointer (some ⟨it47, 0, none⟩))] (MFR (fun k : Int => I k) (fun x : Int => I x) it47 r33 (y34) q48 :: MF (fun k : Int => I k) (fun x : Int => I x) r45 (y51) :: OwnS 4 1 v10 (y52.map cB) :: L) a w) (Ret := fun (r0, r1, r2) => FRet Try.prog Try.f34 (fun e w' => (e = .returned (.tuple #[I r0, I r1, I r2]) ∧ St B (L) w'))) 4 hk58 hn59 hb570 ?_
                dsimp only [F34_L2] at hb57
                refine TC.k ?_
                refine TC.condT rfl ?_
                refine TC.skipk ?_
                refine TC.block ?_
                refine TC.k ?_
                refine TC.region ?_
                refine TO.s rfl rfl rfl (StepS.entryF rfl (Ent.at 0 rfl)) ?_
                refine TO.s rfl rfl rfl (StepS.extract rfl rfl) ?_
                refine TO.s rfl rfl rfl (StepS.extract rfl rfl) ?_
                refine TO.s rfl rfl rfl (StepS.assign rfl) ?_
                refine TO.s rfl rfl rfl (StepS.assign rfl) ?_
                refine TO.code ?_
                refine TC.k ?_
                refine TC.k ?_
                refine TC.region ?_
                refine TO.s rfl rfl rfl (StepS.move rfl) ?_
                refine TO.s rfl rfl rfl (StepS.move rfl) ?_
                refine TO.s rfl rfl rfl (StepS.move rfl) ?_
                obtain ⟨x61, hx62, hb57⟩ := bind_some hb57
                refine TO.s rfl rfl rfl (StepS.idx rfl rfl e0.tl.tl.tl ksliceB_22_3_1_true (idx_spec hx62).1 (idxm_lt hx62)) ?_
                refine TO.s rfl rfl rfl (StepS.ld0 rfl e0.tl.tl.tl kscalB_3_true rfl (idxm hx62) rfl) ?_
                refine TO.s rfl rfl rfl (StepS.cmp rfl rfl rfl) ?_
                refine TO.code ?_
                refine TC.cond rfl (fun hc63 => ?_) (fun hc63 => ?_)
                · replace hb57 := cond_t hc63 hb57
                  refine TC.k ?_
                  refine TC.region ?_
                  refine TO.s rfl rfl rfl (StepS.move rfl) ?_
                  refine TO.s rfl rfl rfl (StepS.move rfl) ?_
                  refine TO.s rfl rfl rfl (StepS.assign rfl) ?_
                  refine TO.s rfl rfl rfl (StepS.assign rfl) ?_
                  refine TO.s rfl rfl rfl (StepS.assign rfl) ?_
                  refine TO.code ?_
                  cases hb57
                  refine TC.ret fun a w e s => ?_
                  refine FRet.mk3 (P := Try.prog) (fn := Try.f34) (t := 4) (u := 5) (s := 6) e rfl rfl rfl rfl ?_
                  exact ⟨rfl, s.mono fun _ => Sat.dropN 3⟩
                · replace hb57 := cond_f hc63 hb57
                  refine TC.skipk ?_
                  refine TC.k ?_
                  refine TC.k ?_
                  refine TC.region ?_
                  refine TO.s rfl rfl rfl (StepS.move rfl) ?_
                  refine TO.s rfl rfl rfl (StepS.move rfl) ?_
                  refine TO.s rfl rfl rfl (StepS.move rfl) ?_
                  obtain ⟨x64, hx65, hb57⟩ := bind_some hb57
                  refine TO.s rfl rfl rfl (StepS.idx rfl rfl e0.tl.tl.tl ksliceB_22_3_1_true (idx_spec hx65).1 (idxm_lt hx65)) ?_
                  refine TO.s rfl rfl rfl (StepS.ld0 rfl e0.tl.tl.tl kscalB_3_true rfl (idxm hx65) rfl) ?_
                  refine TO.s rfl rfl rfl (StepS.cmp rfl rfl rfl) ?_
                  refine TO.code ?_
                  refine TC.cond rfl (fun hc66 => ?_) (fun hc66 => ?_)
                  · replace hb57 := cond_t hc66 hb57
                    refine TC.k ?_
                    refine TC.k ?_
                    refine TC.region ?_
                    refine TO.s rfl rfl rfl (StepS.move rfl) ?_
                    refine TO.s rfl rfl rfl (StepS.move rfl) ?_
                    obtain ⟨x67, hx68, hb57⟩ := bind_some hb57
                    refine TO.s rfl rfl rfl (StepS.idx rfl rfl (OwnS.rd (Ent.at 2 rfl)) ksliceB_53_4_1_true (idx_spec hx68).1 (idxm_lt hx68)) ?_
                    refine TO.s rfl rfl rfl (StepS.ld0 rfl (OwnS.rd (Ent.at 2 rfl)) kscalB_4_true rfl (idxm hx68) rfl) ?_
                    refine TO.code ?_
                    refine TC.cond rfl (fun hc69 => ?_) (fun hc69 => ?_)
                    · replace hb57 := cond_t hc69 hb57
                      cases hb57
                      refine TC.exit rfl fun a w e s => ?_
                      exact ⟨e.sub (lk_of_allIn ⟨rfl, rfl, rfl, rfl, rfl, rfl, trivial⟩), s⟩
                    · replace hb57 := cond_f hc69 hb57
                      refine TC.skipk ?_
                      refine TC.region ?_
                      refine TO.s rfl rfl rfl (StepS.move rfl) ?_
                      refine TO.s rfl rfl rfl (StepS.move rfl) ?_
                      refine TO.s rfl rfl rfl (StepS.move rfl) ?_
                      refine TO.s rfl rfl rfl (StepS.move rfl) ?_
                      obtain ⟨x70, hx71, hb57⟩ := bind_some hb57
                      refine TO.s rfl rfl rfl (StepS.idx rfl rfl e0.tl.tl.tl ksliceB_22_3_1_true (idx_spec hx71).1 (idxm_lt hx71)) ?_
                      refine TO.s rfl rfl rfl (StepS.ld0 rfl e0.tl.tl.tl kscalB_3_true rfl (idxm hx71) rfl) ?_
                      refine TO.s rfl rfl rfl (StepS.assign rfl) ?_
                      obtain ⟨x72, hx73, hb57⟩ := bind_some hb57
                      refine TO.s rfl rfl rfl (StepS.idx rfl rfl (OwnS.rd (Ent.at 2 rfl)) ksliceB_53_4_1_true (idx_spec hx73).1 (idxm_lt hx73)) ?_
                      refine TO.stO (i := k49.toNat) (off := 0) (us := [.bool true]) 2 true rfl rfl rfl ksizeB_4_1_true rfl rfl rfl (idx_spec hx73).2 rfl (by simp [Value.oneCell']) rfl ?_
                      refine TO.code ?_
                      refine TC.region ?_
                      refine TO.s rfl rfl rfl (StepS.move rfl) ?_
                      refine TO.s rfl rfl rfl (StepS.move rfl) ?_
                      refine TO.s rfl rfl rfl (StepS.ari rfl rfl rfl) ?_
                      refine TO.s rfl rfl rfl (StepS.move rfl) ?_
                      obtain ⟨u75, hd74, hb57⟩ := bind_some hb57
                      refine TO.s rfl rfl rfl (StepS.rem rfl rfl (nz_spec hd74)) ?_
                      refine TO.s rfl rfl rfl (StepS.move rfl) ?_
                      refine TO.msetF (k := ((w64 (k49 + 1)).tmod (a0.length : Int))) (v := x70) 1 kmapGB_88_3_3_true (KeyOk.int kunderlying_3_some_int_i64) rfl rfl rfl rfl ?_
                      cases hb57
                      refine TO.nil fun a w e s => ?_
                      exact ⟨e.sub (lk_of_allIn ⟨rfl, rfl, rfl, rfl, rfl, rfl, trivial⟩), s⟩
                  · replace hb57 := cond_f hc66 hb57
                    refine TC.skipk ?_
                    refine TC.region ?_
                    refine TO.s rfl rfl rfl (StepS.move rfl) ?_
                    refine TO.s rfl rfl rfl (StepS.move rfl) ?_
                    refine TO.s rfl rfl rfl (StepS.ari rfl rfl rfl) ?_
                    refine TO.s rfl rfl rfl (StepS.move rfl) ?_
                    obtain ⟨u77, hd76, hb57⟩ := bind_some hb57
                    refine TO.s rfl rfl rfl (StepS.rem rfl rfl (nz_spec hd76)) ?_
                    refine TO.s rfl rfl rfl (StepS.move rfl) ?_
                    refine TO.msetF (k := ((w64 (k49 + 1)).tmod (a0.length : Int))) (v := v50) 1 kmapGB_88_3_3_true (KeyOk.int kunderlying_3_some_int_i64) rfl rfl rfl rfl ?_
                    cases hb57
                    refine TO.nil fun a w e s => ?_
                    exact ⟨e.sub (lk_of_allIn ⟨rfl, rfl, rfl, rfl, rfl, rfl, trivial⟩), s⟩
            · exact fun a w e s => ⟨e.sub (lk_of_allIn ⟨rfl, rfl, rfl, rfl, rfl, rfl, trivial⟩), s⟩
            · rintro ⟨y51, y52⟩ rfl a w ⟨he, hs⟩
              dsimp only [Ctl.onN] at hb44
              refine TC.use ?_ he hs
              refine TC.k ?_
              refine TC.region ?_
              refine TO.s rfl rfl rfl (StepS.move rfl) ?_
              refine TO.s rfl rfl rfl (StepS.assign rfl) ?_
              refine TO.code ?_
              refine TC.region ?_
              refine TO.s rfl rfl rfl (StepS.move rfl) ?_
              refine TO.s rfl rfl rfl (StepS.move rfl) ?_
              refine TO.s rfl rfl rfl (StepS.lenF rfl (Ent.at 1 rfl) kmapGB_88_3_3_true rfl) ?_
              refine TO.s rfl rfl rfl (StepS.ari rfl rfl rfl) ?_
              refine TO.s rfl rfl rfl (StepS.assign rfl) ?_
              cases hb44
              refine TO.nil fun a w e s => ?_
              exact ⟨r45, e.sub (lk_of_allIn ⟨rfl, rfl, rfl, rfl, rfl, trivial⟩), s.mono fun _ => Sat.dropN 1⟩
            · rintro r rfl
              cases hb44
              exact fun a w h => h
          · exact fun a w e s => ⟨r12, e.sub (lk_of_allIn ⟨rfl, rfl, rfl, rfl, rfl, trivial⟩), s⟩
          · intro b hb0; subst hb0; exact absurd hm (by simp)
          · rintro r rfl
            cases hm
            exact fun a w h => h
        · rintro r rfl
          exact fun a w h => h.elim

set_option maxRecDepth 100000 in
theorem C31 {B : World} {L : List HP} {a0 : List Int} {h0 : Value} {r0 : Int} (e0 : Ent L (Rd 1 h0 (a0.map cI))) (hm : F31 a0 = some r0) {w : World} (st : St B L w) : Calls Try.prog 31 #[h0] w (fun e w' => (e = .returned (I r0) ∧ St B (L) w')) := by
  refine calls_of (N := 33) (L := L) (args := [h0]) Try.func31 rfl rfl rfl ?_ st
  dsimp only [F31] at hm
  refine TC.k ?_
  refine TC.region ?_
  refine TO.s rfl rfl rfl (StepS.assign rfl) ?_
  refine TO.code ?_
  refine TC.k ?_
  refine TC.k ?_
  refine TC.region ?_
  refine TO.s rfl rfl rfl (StepS.move rfl) ?_
  refine TO.s rfl rfl rfl (StepS.lenm rfl e0 ksliceB_22_3_1_true rfl) ?_
  refine TO.s rfl rfl rfl (StepS.cmp rfl rfl rfl) ?_
  refine TO.s rfl rfl rfl (StepS.move rfl) ?_
  refine TO.mid1 4 12 (.bool ((decide ((a0.length : Int) < 1)) || (decide ((a0.length : Int) > 12)))) ?_ ?_
  · refine bcase ((decide ((a0.length : Int) < 1))) (fun hb1 => ?_) (fun hb1 => ?_)
    · refine TO.skip rfl rfl rfl (skipT hb1) rfl rfl ?_
      refine TO.skip rfl rfl rfl (skipT hb1) rfl rfl ?_
      refine TO.skip rfl rfl rfl (skipT hb1) rfl rfl ?_
      refine TO.s rfl rfl rfl (StepS.pickT rfl hb1 rfl) ?_
      exact TO.up1 4 0 rfl rfl (by rw [hb1]; rfl) rfl
    · refine TO.sw rfl rfl rfl hb1 rfl rfl (StepS.move rfl) ?_
      refine TO.sw rfl rfl rfl hb1 rfl rfl (StepS.lenm rfl e0 ksliceB_22_3_1_true rfl) ?_
      refine TO.sw rfl rfl rfl hb1 rfl rfl (StepS.cmp rfl rfl rfl) ?_
      refine TO.s rfl rfl rfl (StepS.pickF rfl hb1 rfl) ?_
      exact TO.up1 4 0 rfl rfl (by rw [hb1]; rfl) rfl
  refine TO.code ?_
  refine TC.cond rfl (fun hc2 => ?_) (fun hc2 => ?_)
  · replace hm := cond_t hc2 hm
    refine TC.k ?_
    refine TC.region ?_
    refine TO.s rfl rfl rfl (StepS.assign rfl) ?_
    refine TO.code ?_
    cases hm
    refine TC.ret fun a w e s => ?_
    refine FRet.mk1 (P := Try.prog) (fn := Try.f31) (t := 2) e rfl rfl ?_
    exact ⟨rfl, s.mono fun _ => Sat.dropN 0⟩
  · replace hm := cond_f hc2 hm
    refine TC.skipk ?_
    refine TC.k ?_
    refine TC.k ?_
    refine TC.region ?_
    refine TO.s rfl rfl rfl (StepS.assign rfl) ?_
    refine TO.code ?_
    obtain ⟨o5, hw6, hm⟩ := bind_some hm
    refine TC.loop hw6 (fun x3 => fun a w => Mid 33 B [(0, h0), (3, I x3)] (L) a w) (fun _ => fun a w => Mid 33 B [] (L) a w) (fun r0 => FRet Try.prog Try.f31 (fun e w' => (e = .returned (I r0) ∧ St B (L) w'))) ?_ ?_ ?_ ?_
    · rintro x3 o5r hb7 a w ⟨he, hs⟩
      dsimp only [F31_L0] at hb7
      refine TC.use ?_ he hs
      refine TC.k ?_
      refine TC.k ?_
      refine TC.region ?_
      refine TO.s rfl rfl rfl (StepS.move rfl) ?_
      refine TO.s rfl rfl rfl (StepS.move rfl) ?_
      refine TO.s rfl rfl rfl (StepS.lenm rfl e0 ksliceB_22_3_1_true rfl) ?_
      refine TO.s rfl rfl rfl (StepS.cmp rfl rfl rfl) ?_
      refine TO.code ?_
      refine TC.cond rfl (fun hc8 => ?_) (fun hc8 => ?_)
      · replace hb7 := cond_t hc8 hb7
        refine TC.skipk ?_
        refine TC.k ?_
        refine TC.block ?_
        refine TC.k ?_
        refine TC.region ?_
        refine TO.s rfl rfl rfl (StepS.assign rfl) ?_
        refine TO.code ?_
        obtain ⟨o11, hw12, hb7⟩ := bind_some hb7
        refine TC.loop hw12 (fun x9 => fun a w => Mid 33 B [(0, h0), (3, I x3), (4, I x9)] (L) a w) (fun _ => fun a w => Mid 33 B [(0, h0), (3, I x3)] (L) a w) (fun r0 => FRet Try.prog Try.f31 (fun e w' => (e = .returned (I r0) ∧ St B (L) w'))) ?_ ?_ ?_ ?_
        · rintro x9 o11r hb13 a w ⟨he, hs⟩
          dsimp only [F31_L1] at hb13
          refine TC.use ?_ he hs
          refine TC.k ?_
          refine TC.k ?_
          refine TC.region ?_
          refine TO.s rfl rfl rfl (StepS.move rfl) ?_
          refine TO.s rfl rfl rfl (StepS.move rfl) ?_
          refine TO.s rfl rfl rfl (StepS.cmp rfl rfl rfl) ?_
          refine TO.code ?_
          refine TC.cond rfl (fun hc14 => ?_) (fun hc14 => ?_)
          · replace hb13 := cond_t hc14 hb13
            refine TC.skipk ?_
            refine TC.k ?_
            refine TC.block ?_
            refine TC.k ?_
            refine TC.region_still kfollows_mixedOrders_true (by kernel_rfl) ?_
            refine TS.s rfl rfl rfl (StepS.move rfl) ?_
            refine TS.s rfl rfl rfl (StepS.move rfl) ?_
            obtain ⟨x15, hx16, hb13⟩ := bind_some hb13
            refine TS.s rfl rfl rfl (StepS.idx rfl rfl e0 ksliceB_22_3_1_true (idx_spec hx16).1 (idxm_lt hx16)) ?_
            refine TS.s rfl rfl rfl (StepS.ld0 rfl e0 kscalB_3_true rfl (idxm hx16) rfl) ?_
            refine TS.s rfl rfl rfl (StepS.move rfl) ?_
            refine TS.s rfl rfl rfl (StepS.move rfl) ?_
            obtain ⟨x17, hx18, hb13⟩ := bind_some hb13
            refine TS.s rfl rfl rfl (StepS.idx rfl rfl e0 ksliceB_22_3_1_true (idx_spec hx18).1 (idxm_lt hx18)) ?_
            refine TS.s rfl rfl rfl (StepS.ld0 rfl e0 kscalB_3_true rfl (idxm hx18) rfl) ?_
            refine TS.s rfl rfl rfl (StepS.cmp rfl rfl rfl) ?_
            refine TS.code ?_
            refine TC.cond rfl (fun hc19 => ?_) (fun hc19 => ?_)
            · replace hb13 := cond_t hc19 hb13
              refine TC.k ?_
              refine TC.region ?_
              refine TO.s rfl rfl rfl (StepS.assign rfl) ?_
              refine TO.code ?_
              cases hb13
              refine TC.ret fun a w e s => ?_
              refine FRet.mk1 (P := Try.prog) (fn := Try.f31) (t := 2) e rfl rfl ?_
              exact ⟨rfl, s.mono fun _ => Sat.dropN 0⟩
            · replace hb13 := cond_f hc19 hb13
              refine TC.skipk ?_
              refine TC.region ?_
              refine TO.s rfl rfl rfl (StepS.move rfl) ?_
              refine TO.s rfl rfl rfl (StepS.ari rfl rfl rfl) ?_
              refine TO.s rfl rfl rfl (StepS.assign rfl) ?_
              cases hb13
              refine TO.nil fun a w e s => ?_
              exact ⟨e.sub (lk_of_allIn ⟨rfl, rfl, rfl, trivial⟩), s⟩
          · replace hb13 := cond_f hc14 hb13
            cases hb13
            refine TC.exit rfl fun a w e s => ?_
            exact ⟨e.sub (lk_of_allIn ⟨rfl, rfl, trivial⟩), s⟩
        · exact fun a w e s => ⟨e.sub (lk_of_allIn ⟨rfl, rfl, rfl, trivial⟩), s⟩
        · rintro _ rfl a w ⟨he, hs⟩
          dsimp only [Ctl.on] at hb7
          refine TC.use ?_ he hs
          refine TC.region ?_
          refine TO.s rfl rfl rfl (StepS.move rfl) ?_
          refine TO.s rfl rfl rfl (StepS.ari rfl rfl rfl) ?_
          refine TO.s rfl rfl rfl (StepS.assign rfl) ?_
          cases hb7
          refine TO.nil fun a w e s => ?_
          exact ⟨e.sub (lk_of_allIn ⟨rfl, rfl, trivial⟩), s⟩
        · rintro r rfl
          cases hb7
          exact fun a w h => h
      · replace hb7 := cond_f hc8 hb7
        cases hb7
        refine TC.exit rfl fun a w e s => ?_
        exact ⟨e.sub (lk_of_allIn trivial), s⟩
    · exact fun a w e s => ⟨e.sub (lk_of_allIn ⟨rfl, rfl, trivial⟩), s⟩
    · rintro _ rfl a w ⟨he, hs⟩
      dsimp only [Ctl.on] at hm
      refine TC.use ?_ he hs
      refine TC.k ?_
      refine TC.region ?_
      refine TO.s rfl rfl rfl (StepS.assign rfl) ?_
      refine TO.code ?_
      cases hm
      refine TC.ret fun a w e s => ?_
      refine FRet.mk1 (P := Try.prog) (fn := Try.f31) (t := 2) e rfl rfl ?_
      exact ⟨rfl, s.mono fun _ => Sat.dropN 0⟩
    · rintro r rfl
      cases hm
      exact fun a w h => h

set_option maxRecDepth 100000 in
theorem C35 {B : World} {L : List HP} {a0 : List Int} {a1 : List Bool} {h0 : Value} {h1 : Value} {r0 : Int} {r1 : Int} (e0 : Ent L (Rd 1 h0 (a0.map cI))) (e1 : Ent L (Rd 1 h1 (a1.map cB))) (hm : F35 a0 a1 = some (r0, r1)) {w : World} (st : St B L w) : Calls Try.prog 35 #[h0, h1] w (fun e w' => (e = .returned (.tuple #[I r0, I r1]) ∧ St B (L) w')) := by
  refine calls_of (N := 127) (L := L) (args := [h0, h1]) Try.func35 rfl rfl rfl ?_ st
  dsimp only [F35] at hm
  refine TC.k ?_
  refine TC.region ?_
  refine TO.s rfl rfl rfl (StepS.assign rfl) ?_
  refine TO.s rfl rfl rfl (StepS.assign rfl) ?_
  refine TO.code ?_
  refine TC.k ?_
  refine TC.region ?_
  refine TO.s rfl rfl rfl (StepS.move rfl) ?_
  refine TO.s rfl rfl rfl (StepS.lenm rfl e0 ksliceB_22_3_1_true rfl) ?_
  refine TO.s rfl rfl rfl (StepS.assign rfl) ?_
  refine TO.code ?_
  refine TC.k ?_
  refine TC.region ?_
  refine TO.lit0 (f := cB) ksliceB_53_4_1_true rfl fun v1 => ?_
  refine TO.s rfl rfl rfl (StepS.move rfl) ?_
  obtain ⟨y3, hk4, hm⟩ := bind_some hm
  refine TO.app (k := 0) (f := cB) kelemB_53_4_1_1_true (by decide) rfl rfl rfl e1.tl hk4 (fun x c hc => by simp [Value.oneCell'] at hc ⊢; first | (obtain rfl := hc; rfl) | (rcases hc with rfl <;> rfl)) rfl rfl fun v5 => ?_
  refine TO.s rfl rfl rfl (StepS.assign rfl) ?_
  refine TO.code ?_
  refine TC.k ?_
  refine TC.region ?_
  refine TO.s rfl rfl rfl (StepS.move rfl) ?_
  obtain ⟨y6, hk7, hm⟩ := bind_some hm
  refine TO.mkS (f := cB) (za := false) kelemB_53_4_1_1_true kinfo_4_bind_zero_some_bool_false rfl (by decide) rfl rfl hk7 rfl fun v8 => ?_
  refine TO.s rfl rfl rfl (StepS.assign rfl) ?_
  refine TO.code ?_
  refine TC.k ?_
  refine TC.region ?_
  refine TO.s rfl rfl rfl (StepS.move rfl) ?_
  obtain ⟨y10, hk11, hm⟩ := bind_some hm
  refine TO.mkS (f := cI) (za := 0) kelemB_22_3_1_8_true kinfo_3_bind_zero_some_I_0 rfl (by decide) rfl rfl hk11 rfl fun v12 => ?_
  refine TO.s rfl rfl rfl (StepS.assign rfl) ?_
  refine TO.code ?_
  refine TC.k ?_
  refine TC.region ?_
  refine TO.s rfl rfl rfl (StepS.assign rfl) ?_
  refine TO.code ?_
  refine TC.k ?_
  refine TC.k ?_
  refine TC.region ?_
  refine TO.s rfl rfl rfl (StepS.assign rfl) ?_
  refine TO.code ?_
  obtain ⟨o25, hw26, hm⟩ := bind_some hm
  refine TC.loop hw26 (fun (y14, y15, x16, x17) => fun a w => Mid 127 B [(0, h0), (1, h1), (6, I (a0.length : Int)), (7, v5), (8, v8), (9, v12), (10, I x16), (11, I x17)] (OwnS 3 1 v12 (y14.map cI) :: OwnS 4 1 v8 (y15.map cB) :: OwnS 4 1 v5 (y3.map cB) :: L) a w) (fun (y22, y23, x24) => fun a w => Mid 127 B [(0, h0), (6, I (a0.length : Int)), (7, v5), (8, v8), (9, v12), (10, I x24)] (OwnS 3 1 v12 (y22.map cI) :: OwnS 4 1 v8 (y23.map cB) :: OwnS 4 1 v5 (y3.map cB) :: L) a w) (fun (_ : Unit) _ _ => False) ?_ ?_ ?_ ?_
  · rintro ⟨y14, y15, x16, x17⟩ o25r hb27 a w ⟨he, hs⟩
    dsimp only [F35_L0] at hb27
    refine TC.use ?_ he hs
    refine TC.k ?_
    refine TC.k ?_
    refine TC.region ?_
    refine TO.s rfl rfl rfl (StepS.move rfl) ?_
    refine TO.s rfl rfl rfl (StepS.move rfl) ?_
    refine TO.s rfl rfl rfl (StepS.cmp rfl rfl rfl) ?_
    refine TO.code ?_
    refine TC.cond rfl (fun hc28 => ?_) (fun hc28 => ?_)
    · replace hb27 := cond_t hc28 hb27
      refine TC.skipk ?_
      refine TC.k ?_
      obtain ⟨⟨y29, y30, x31⟩, hj32, hb27⟩ := bind_some hb27
      first | refine TC.cutM (fun a w => Mid 127 B [(0, h0), (1, h1), (6, I (a0.length : Int)), (7, v5), (8, v8), (9, v12), (10, I x31), (11, I x17)] (OwnS 3 1 v12 (y29.map cI) :: OwnS 4 1 v8 (y30.map cB) :: OwnS 4 1 v5 (y3.map cB) :: L) a w) ?_ ?_ | refine TC.cutX (fun a w => Mid 127 B [(0, h0), (1, h1), (6, I (a0.length : Int)), (7, v5), (8, v8), (9, v12), (10, I x31), (11, I x17)] (OwnS 3 1 v12 (y29.map cI) :: OwnS 4 1 v8 (y30.map cB) :: OwnS 4 1 v5 (y3.map cB) :: L) a w) ?_ ?_
      · refine TC.block ?_
        refine TC.k ?_
        refine TC.region ?_
        refine TO.s rfl rfl rfl (StepS.move rfl) ?_
        refine TO.s rfl rfl rfl (StepS.move rfl) ?_
        obtain ⟨x33, hx34, hj32⟩ := bind_some hj32
        refine TO.s rfl rfl rfl (StepS.idx rfl rfl e1.tl.tl.tl ksliceB_53_4_1_true (idx_spec hx34).1 (idxm_lt hx34)) ?_
        refine TO.s rfl rfl rfl (StepS.ld0 rfl e1.tl.tl.tl kscalB_4_true rfl (idxm hx34) rfl) ?_
        refine TO.code ?_
        refine TC.cond rfl (fun hc35 => ?_) (fun hc35 => ?_)
        · replace hj32 := cond_t hc35 hj32
          refine TC.k ?_
          refine TC.region ?_
          refine TO.s rfl rfl rfl (StepS.move rfl) ?_
          refine TO.s rfl rfl rfl (StepS.move rfl) ?_
          refine TO.s rfl rfl rfl (StepS.ari rfl rfl rfl) ?_
          refine TO.s rfl rfl rfl (StepS.move rfl) ?_
          obtain ⟨u37, hd36, hj32⟩ := bind_some hj32
          refine TO.s rfl rfl rfl (StepS.rem rfl rfl (nz_spec hd36)) ?_
          obtain ⟨x38, hx39, hj32⟩ := bind_some hj32
          refine TO.s rfl rfl rfl (StepS.idx rfl rfl (OwnS.rd (Ent.at 1 rfl)) ksliceB_53_4_1_true (idx_spec hx39).1 (idxm_lt hx39)) ?_
          refine TO.stO (i := ((w64 (x17 + 1)).tmod (a0.length : Int)).toNat) (off := 0) (us := [.bool true]) 1 true rfl rfl rfl ksizeB_4_1_true rfl rfl rfl (idx_spec hx39).2 rfl (by simp [Value.oneCell']) rfl ?_
          refine TO.code ?_
          refine TC.k ?_
          refine TC.region_tail 10 kfollows_mixedOrders_true (by kernel_rfl) ?_
          refine TS.s rfl rfl rfl (StepS.move rfl) ?_
          refine TS.s rfl rfl rfl (StepS.move rfl) ?_
          refine TS.s rfl rfl rfl (StepS.ari rfl rfl rfl) ?_
          refine TS.s rfl rfl rfl (StepS.move rfl) ?_
          obtain ⟨u41, hd40, hj32⟩ := bind_some hj32
          refine TS.s rfl rfl rfl (StepS.rem rfl rfl (nz_spec hd40)) ?_
          refine TS.s rfl rfl rfl (StepS.move rfl) ?_
          refine TS.s rfl rfl rfl (StepS.move rfl) ?_
          obtain ⟨x42, hx43, hj32⟩ := bind_some hj32
          refine TS.s rfl rfl rfl (StepS.idx rfl rfl e0.tl.tl.tl ksliceB_22_3_1_true (idx_spec hx43).1 (idxm_lt hx43)) ?_
          refine TS.s rfl rfl rfl (StepS.ld0 rfl e0.tl.tl.tl kscalB_3_true rfl (idxm hx43) rfl) ?_
          obtain ⟨x44, hx45, hj32⟩ := bind_some hj32
          refine TS.s rfl rfl rfl (StepS.idx rfl rfl (OwnS.rd (Ent.at 0 rfl)) ksliceB_22_3_1_true (idx_spec hx45).1 (idxm_lt hx45)) ?_
          refine TS.nil ?_
          refine TO.at ?_
          refine TO.stO (i := ((w64 (x17 + 1)).tmod (a0.length : Int)).toNat) (off := 0) (us := [I x42]) 0 x42 rfl rfl rfl ksizeB_3_1_true rfl rfl rfl (idx_spec hx45).2 rfl (by simp [Value.oneCell']) rfl ?_
          refine TO.code ?_
          refine TC.region ?_
          refine TO.s rfl rfl rfl (StepS.move rfl) ?_
          refine TO.s rfl rfl rfl (StepS.ari rfl rfl rfl) ?_
          refine TO.s rfl rfl rfl (StepS.assign rfl) ?_
          cases hj32
          refine TO.nil fun a w e s => ?_
          exact ⟨e.sub (lk_of_allIn ⟨rfl, rfl, rfl, rfl, rfl, rfl, rfl, rfl, trivial⟩), s⟩
        · replace hj32 := cond_f hc35 hj32
          cases hj32
          refine TC.skip fun a w e s => ?_
          exact ⟨e.sub (lk_of_allIn ⟨rfl, rfl, rfl, rfl, rfl, rfl, rfl, rfl, trivial⟩), s⟩
      · intro a w ⟨he, hs⟩
        refine TC.use ?_ he hs
        refine TC.region ?_
        refine TO.s rfl rfl rfl (StepS.move rfl) ?_
        refine TO.s rfl rfl rfl (StepS.ari rfl rfl rfl) ?_
        refine TO.s rfl rfl rfl (StepS.assign rfl) ?_
        cases hb27
        refine TO.nil fun a w e s => ?_
        exact ⟨e.sub (lk_of_allIn ⟨rfl, rfl, rfl, rfl, rfl, rfl, rfl, rfl, trivial⟩), s⟩
    · replace hb27 := cond_f hc28 hb27
      cases hb27
      refine TC.exit rfl fun a w e s => ?_
      exact ⟨e.sub (lk_of_allIn ⟨rfl, rfl, rfl, rfl, rfl, rfl, trivial⟩), s⟩
  · exact fun a w e s => ⟨e.sub (lk_of_allIn ⟨rfl, rfl, rfl, rfl, rfl, rfl, rfl, rfl, trivial⟩), s⟩
  · rintro ⟨y22, y23, x24⟩ rfl a w ⟨he, hs⟩
    dsimp only [Ctl.on] at hm
    refine TC.use ?_ he hs
    obtain ⟨o62, hw63, hm⟩ := bind_some hm
    refine TC.loop hw63 (fun (y48, y51, y52, x53) => fun a w => ∃ v46 : Value, ∃ v49 : Value, Mid 127 B [(0, h0), (6, I (a0.length : Int)), (7, v5), (8, v46), (9, v49), (10, I x53)] (OwnS 4 1 v46 (y48.map cB) :: OwnS 3 1 v49 (y51.map cI) :: OwnS 4 1 v5 (y52.map cB) :: L) a w) (fun _ => fun a w => Mid 127 B [(0, h0), (6, I (a0.length : Int)), (7, v5), (8, v8), (9, v12), (10, I x24)] (OwnS 3 1 v12 (y22.map cI) :: OwnS 4 1 v8 (y23.map cB) :: OwnS 4 1 v5 (y3.map cB) :: L) a w) (fun (r0, r1) => FRet Try.prog Try.f35 (fun e w' => (e = .returned (.tuple #[I r0, I r1]) ∧ St B (L) w'))) ?_ ?_ ?_ ?_
    · rintro ⟨y48, y51, y52, x53⟩ o62r hb64 a w ⟨v46, v49, he, hs⟩
      dsimp only [F35_L1] at hb64
      refine TC.use ?_ he hs
      refine TC.block ?_
      refine TC.k ?_
      refine TC.region ?_
      refine TO.s rfl rfl rfl (StepS.move rfl) ?_
      obtain ⟨y65, hk66, hb64⟩ := bind_some hb64
      refine TO.mkS (f := cB) (za := false) kelemB_53_4_1_1_true kinfo_4_bind_zero_some_bool_false rfl (by decide) rfl rfl hk66 rfl fun v67 => ?_
      refine TO.s rfl rfl rfl (StepS.assign rfl) ?_
      refine TO.code ?_
      refine TC.k ?_
      refine TC.region ?_
      refine TO.s rfl rfl rfl (StepS.move rfl) ?_
      obtain ⟨y69, hk70, hb64⟩ := bind_some hb64
      refine TO.mkS (f := cI) (za := 0) kelemB_22_3_1_8_true kinfo_3_bind_zero_some_I_0 rfl (by decide) rfl rfl hk70 rfl fun v71 => ?_
      refine TO.s rfl rfl rfl (StepS.assign rfl) ?_
      refine TO.code ?_
      refine TC.k ?_
      refine TC.region ?_
      refine TO.s rfl rfl rfl (StepS.assign rfl) ?_
      refine TO.code ?_
      refine TC.k ?_
      refine TC.k ?_
      refine TC.region ?_
      refine TO.s rfl rfl rfl (StepS.assign rfl) ?_
      refine TO.code ?_
      obtain ⟨o87, hw88, hb64⟩ := bind_some hb64
      refine TC.loop hw88 (fun (y73, y74, y75, x76, x77) => fun a w => Mid 127 B [(0, h0), (6, I (a0.length : Int)), (7, v5), (8, v46), (9, v49), (10, I x53), (12, v67), (13, v71), (14, I x76), (15, I x77)] (OwnS 3 1 v71 (y73.map cI) :: OwnS 4 1 v67 (y74.map cB) :: OwnS 4 1 v46 (y48.map cB) :: OwnS 3 1 v49 (y51.map cI) :: OwnS 4 1 v5 (y75.map cB) :: L) a w) (fun (y83, y84, y85, x86) => fun a w => Mid 127 B [(0, h0), (6, I (a0.length : Int)), (7, v5), (10, I x53), (12, v67), (13, v71), (14, I x86)] (OwnS 3 1 v71 (y83.map cI) :: OwnS 4 1 v67 (y84.map cB) :: OwnS 4 1 v46 (y48.map cB) :: OwnS 3 1 v49 (y51.map cI) :: OwnS 4 1 v5 (y85.map cB) :: L) a w) (fun (r0, r1) => FRet Try.prog Try.f35 (fun e w' => (e = .returned (.tuple #[I r0, I r1]) ∧ St B (L) w'))) ?_ ?_ ?_ ?_
      · rintro ⟨y73, y74, y75, x76, x77⟩ o87r hb89 a w ⟨he, hs⟩
        dsimp only [F35_L2] at hb89
        refine TC.use ?_ he hs
        refine TC.k ?_
        refine TC.k ?_
        refine TC.region ?_
        refine TO.s rfl rfl rfl (StepS.move rfl) ?_
        refine TO.s rfl rfl rfl (StepS.move rfl) ?_
        refine TO.s rfl rfl rfl (StepS.cmp rfl rfl rfl) ?_
        refine TO.code ?_
        refine TC.cond rfl (fun hc90 => ?_) (fun hc90 => ?_)
        · replace hb89 := cond_t hc90 hb89
          refine TC.skipk ?_
          refine TC.k ?_
          refine TC.block ?_
          refine TC.k ?_
          refine TC.k ?_
          refine TC.region ?_
          refine TO.s rfl rfl rfl (StepS.move rfl) ?_
          refine TO.s rfl rfl rfl (StepS.move rfl) ?_
          obtain ⟨x91, hx92, hb89⟩ := bind_some hb89
          refine TO.s rfl rfl rfl (StepS.idx rfl rfl (OwnS.rd (Ent.at 2 rfl)) ksliceB_53_4_1_true (idx_spec hx92).1 (idxm_lt hx92)) ?_
          refine TO.s rfl rfl rfl (StepS.ld0 rfl (OwnS.rd (Ent.at 2 rfl)) kscalB_4_true rfl (idxm hx92) rfl) ?_
          refine TO.s rfl rfl rfl (StepS.not rfl) ?_
          refine TO.code ?_
          refine TC.cond rfl (fun hc93 => ?_) (fun hc93 => ?_)
          · replace hb89 := cond_t hc93 hb89
            refine TC.exitk rfl ?_
            refine TC.region ?_
            refine TO.s rfl rfl rfl (StepS.move rfl) ?_
            refine TO.s rfl rfl rfl (StepS.ari rfl rfl rfl) ?_
            refine TO.s rfl rfl rfl (StepS.assign rfl) ?_
            cases hb89
            refine TO.nil fun a w e s => ?_
            exact ⟨e.sub (lk_of_allIn ⟨rfl, rfl, rfl, rfl, rfl, rfl, rfl, rfl, rfl, rfl, trivial⟩), s⟩
          · replace hb89 := cond_f hc93 hb89
            refine TC.skipk ?_
            refine TC.k ?_
            refine TC.k ?_
            refine TC.region_still kfollows_mixedOrders_true (by kernel_rfl) ?_
            refine TS.s rfl rfl rfl (StepS.move rfl) ?_
            refine TS.s rfl rfl rfl (StepS.move rfl) ?_
            obtain ⟨x94, hx95, hb89⟩ := bind_some hb89
            refine TS.s rfl rfl rfl (StepS.idx rfl rfl (OwnS.rd (Ent.at 3 rfl)) ksliceB_22_3_1_true (idx_spec hx95).1 (idxm_lt hx95)) ?_
            refine TS.s rfl rfl rfl (StepS.ld0 rfl (OwnS.rd (Ent.at 3 rfl)) kscalB_3_true rfl (idxm hx95) rfl) ?_
            refine TS.s rfl rfl rfl (StepS.move rfl) ?_
            refine TS.s rfl rfl rfl (StepS.move rfl) ?_
            obtain ⟨x96, hx97, hb89⟩ := bind_some hb89
            refine TS.s rfl rfl rfl (StepS.idx rfl rfl e0.tl.tl.tl.tl.tl ksliceB_22_3_1_true (idx_spec hx97).1 (idxm_lt hx97)) ?_
            refine TS.s rfl rfl rfl (StepS.ld0 rfl e0.tl.tl.tl.tl.tl kscalB_3_true rfl (idxm hx97) rfl) ?_
            refine TS.s rfl rfl rfl (StepS.cmp rfl rfl rfl) ?_
            refine TS.code ?_
            refine TC.cond rfl (fun hc98 => ?_) (fun hc98 => ?_)
            · replace hb89 := cond_t hc98 hb89
              refine TC.k ?_
              refine TC.region ?_
              refine TO.s rfl rfl rfl (StepS.move rfl) ?_
              refine TO.s rfl rfl rfl (StepS.move rfl) ?_
              refine TO.s rfl rfl rfl (StepS.assign rfl) ?_
              refine TO.s rfl rfl rfl (StepS.assign rfl) ?_
              refine TO.code ?_
              cases hb89
              refine TC.ret fun a w e s => ?_
              refine FRet.mk2 (P := Try.prog) (fn := Try.f35) (t := 4) (u := 5) e rfl rfl rfl ?_
              exact ⟨rfl, s.mono fun _ => Sat.dropN 5⟩
            · replace hb89 := cond_f hc98 hb89
              refine TC.skipk ?_
              refine TC.k ?_
              refine TC.region ?_
              refine TO.s rfl rfl rfl (StepS.move rfl) ?_
              refine TO.s rfl rfl rfl (StepS.move rfl) ?_
              obtain ⟨x99, hx100, hb89⟩ := bind_some hb89
              refine TO.s rfl rfl rfl (StepS.idx rfl rfl (OwnS.rd (Ent.at 3 rfl)) ksliceB_22_3_1_true (idx_spec hx100).1 (idxm_lt hx100)) ?_
              refine TO.s rfl rfl rfl (StepS.ld0 rfl (OwnS.rd (Ent.at 3 rfl)) kscalB_3_true rfl (idxm hx100) rfl) ?_
              refine TO.s rfl rfl rfl (StepS.assign rfl) ?_
              refine TO.code ?_
              refine TC.k ?_
              refine TC.k ?_
              refine TC.region ?_
              refine TO.s rfl rfl rfl (StepS.move rfl) ?_
              refine TO.s rfl rfl rfl (StepS.move rfl) ?_
              refine TO.s rfl rfl rfl (StepS.move rfl) ?_
              obtain ⟨x101, hx102, hb89⟩ := bind_some hb89
              refine TO.s rfl rfl rfl (StepS.idx rfl rfl e0.tl.tl.tl.tl.tl ksliceB_22_3_1_true (idx_spec hx102).1 (idxm_lt hx102)) ?_
              refine TO.s rfl rfl rfl (StepS.ld0 rfl e0.tl.tl.tl.tl.tl kscalB_3_true rfl (idxm hx102) rfl) ?_
              refine TO.s rfl rfl rfl (StepS.cmp rfl rfl rfl) ?_
              refine TO.s rfl rfl rfl (StepS.move rfl) ?_
              obtain ⟨b104, hj105, hb89⟩ := bind_some hb89
              refine TO.mid1 5 93 (.bool b104) ?_ ?_
              · refine bcase ((decide (x99 < x101))) (fun hb103 => ?_) (fun hb103 => ?_)
                · replace hj105 := cond_t hb103 hj105
                  refine TO.sw rfl rfl rfl hb103 rfl rfl (StepS.move rfl) ?_
                  refine TO.sw rfl rfl rfl hb103 rfl rfl (StepS.move rfl) ?_
                  obtain ⟨x106, hx107, hj105⟩ := bind_some hj105
                  refine TO.sw rfl rfl rfl hb103 rfl rfl (StepS.idx rfl rfl (OwnS.rd (Ent.at 4 rfl)) ksliceB_53_4_1_true (idx_spec hx107).1 (idxm_lt hx107)) ?_
                  refine TO.sw rfl rfl rfl hb103 rfl rfl (StepS.ld0 rfl (OwnS.rd (Ent.at 4 rfl)) kscalB_4_true rfl (idxm hx107) rfl) ?_
                  cases hj105
                  refine TO.s rfl rfl rfl (StepS.pickT rfl hb103 rfl) ?_
                  exact TO.up1 5 0 rfl rfl rfl rfl
                · replace hj105 := cond_f hb103 hj105
                  cases hj105
                  refine TO.skip rfl rfl rfl (skipF hb103) rfl rfl ?_
                  refine TO.skip rfl rfl rfl (skipF hb103) rfl rfl ?_
                  refine TO.skip rfl rfl rfl (skipF hb103) rfl rfl ?_
                  refine TO.skip rfl rfl rfl (skipF hb103) rfl rfl ?_
                  refine TO.s rfl rfl rfl (StepS.pickF rfl hb103 rfl) ?_
                  exact TO.up1 5 0 rfl rfl rfl rfl
              refine TO.code ?_
              refine TC.cond rfl (fun hc108 => ?_) (fun hc108 => ?_)
              · replace hb89 := cond_t hc108 hb89
                refine TC.exitk rfl ?_
                refine TC.region ?_
                refine TO.s rfl rfl rfl (StepS.move rfl) ?_
                refine TO.s rfl rfl rfl (StepS.ari rfl rfl rfl) ?_
                refine TO.s rfl rfl rfl (StepS.assign rfl) ?_
                cases hb89
                refine TO.nil fun a w e s => ?_
                exact ⟨e.sub (lk_of_allIn ⟨rfl, rfl, rfl, rfl, rfl, rfl, rfl, rfl, rfl, rfl, trivial⟩), s⟩
              · replace hb89 := cond_f hc108 hb89
                refine TC.skipk ?_
                refine TC.k ?_
                refine TC.k ?_
                refine TC.region ?_
                refine TO.s rfl rfl rfl (StepS.move rfl) ?_
                refine TO.s rfl rfl rfl (StepS.move rfl) ?_
                refine TO.s rfl rfl rfl (StepS.move rfl) ?_
                obtain ⟨x109, hx110, hb89⟩ := bind_some hb89
                refine TO.s rfl rfl rfl (StepS.idx rfl rfl e0.tl.tl.tl.tl.tl ksliceB_22_3_1_true (idx_spec hx110).1 (idxm_lt hx110)) ?_
                refine TO.s rfl rfl rfl (StepS.ld0 rfl e0.tl.tl.tl.tl.tl kscalB_3_true rfl (idxm hx110) rfl) ?_
                refine TO.s rfl rfl rfl (StepS.cmp rfl rfl rfl) ?_
                refine TO.code ?_
                obtain ⟨⟨y111, x112⟩, hj113, hb89⟩ := bind_some hb89
                first | refine TC.cutM (fun a w => Mid 127 B [(0, h0), (6, I (a0.length : Int)), (7, v5), (8, v46), (9, v49), (10, I x53), (12, v67), (13, v71), (14, I x76), (15, I x77), (16, I x112)] (OwnS 3 1 v71 (y73.map cI) :: OwnS 4 1 v67 (y74.map cB) :: OwnS 4 1 v46 (y48.map cB) :: OwnS 3 1 v49 (y51.map cI) :: OwnS 4 1 v5 (y111.map cB) :: L) a w) ?_ ?_ | refine TC.cutX (fun a w => Mid 127 B [(0, h0), (6, I (a0.length : Int)), (7, v5), (8, v46), (9, v49), (10, I x53), (12, v67), (13, v71), (14, I x76), (15, I x77), (16, I x112)] (OwnS 3 1 v71 (y73.map cI) :: OwnS 4 1 v67 (y74.map cB) :: OwnS 4 1 v46 (y48.map cB) :: OwnS 3 1 v49 (y51.map cI) :: OwnS 4 1 v5 (y111.map cB) :: L) a w) ?_ ?_
                · refine TC.cond rfl (fun hc114 => ?_) (fun hc114 => ?_)
                  · replace hj113 := cond_t hc114 hj113
                    refine TC.k ?_
                    refine TC.region ?_
                    refine TO.s rfl rfl rfl (StepS.move rfl) ?_
                    refine TO.s rfl rfl rfl (StepS.move rfl) ?_
                    obtain ⟨x115, hx116, hj113⟩ := bind_some hj113
                    refine TO.s rfl rfl rfl (StepS.idx rfl rfl e0.tl.tl.tl.tl.tl ksliceB_22_3_1_true (idx_spec hx116).1 (idxm_lt hx116)) ?_
                    refine TO.s rfl rfl rfl (StepS.ld0 rfl e0.tl.tl.tl.tl.tl kscalB_3_true rfl (idxm hx116) rfl) ?_
                    refine TO.s rfl rfl rfl (StepS.assign rfl) ?_
                    refine TO.code ?_
                    refine TC.region ?_
                    refine TO.s rfl rfl rfl (StepS.move rfl) ?_
                    refine TO.s rfl rfl rfl (StepS.move rfl) ?_
                    obtain ⟨x117, hx118, hj113⟩ := bind_some hj113
                    refine TO.s rfl rfl rfl (StepS.idx rfl rfl (OwnS.rd (Ent.at 4 rfl)) ksliceB_53_4_1_true (idx_spec hx118).1 (idxm_lt hx118)) ?_
                    refine TO.stO (i := x77.toNat) (off := 0) (us := [.bool true]) 4 true rfl rfl rfl ksizeB_4_1_true rfl rfl rfl (idx_spec hx118).2 rfl (by simp [Value.oneCell']) rfl ?_
                    cases hj113
                    refine TO.nil fun a w e s => ?_
                    exact ⟨e.sub (lk_of_allIn ⟨rfl, rfl, rfl, rfl, rfl, rfl, rfl, rfl, rfl, rfl, rfl, trivial⟩), s⟩
                  · replace hj113 := cond_f hc114 hj113
                    cases hj113
                    refine TC.skip fun a w e s => ?_
                    exact ⟨e.sub (lk_of_allIn ⟨rfl, rfl, rfl, rfl, rfl, rfl, rfl, rfl, rfl, rfl, rfl, trivial⟩), s⟩
                · intro a w ⟨he, hs⟩
                  refine TC.use ?_ he hs
                  refine TC.k ?_
                  refine TC.region ?_
                  refine TO.s rfl rfl rfl (StepS.move rfl) ?_
                  refine TO.s rfl rfl rfl (StepS.move rfl) ?_
                  refine TO.s rfl rfl rfl (StepS.ari rfl rfl rfl) ?_
                  refine TO.s rfl rfl rfl (StepS.move rfl) ?_
                  obtain ⟨u120, hd119, hb89⟩ := bind_some hb89
                  refine TO.s rfl rfl rfl (StepS.rem rfl rfl (nz_spec hd119)) ?_
                  obtain ⟨x121, hx122, hb89⟩ := bind_some hb89
                  refine TO.s rfl rfl rfl (StepS.idx rfl rfl (OwnS.rd (Ent.at 1 rfl)) ksliceB_53_4_1_true (idx_spec hx122).1 (idxm_lt hx122)) ?_
                  refine TO.stO (i := ((w64 (x77 + 1)).tmod (a0.length : Int)).toNat) (off := 0) (us := [.bool true]) 1 true rfl rfl rfl ksizeB_4_1_true rfl rfl rfl (idx_spec hx122).2 rfl (by simp [Value.oneCell']) rfl ?_
                  refine TO.code ?_
                  refine TC.k ?_
                  refine TC.region ?_
                  refine TO.s rfl rfl rfl (StepS.move rfl) ?_
                  refine TO.s rfl rfl rfl (StepS.move rfl) ?_
                  refine TO.s rfl rfl rfl (StepS.ari rfl rfl rfl) ?_
                  refine TO.s rfl rfl rfl (StepS.move rfl) ?_
                  obtain ⟨u124, hd123, hb89⟩ := bind_some hb89
                  refine TO.s rfl rfl rfl (StepS.rem rfl rfl (nz_spec hd123)) ?_
                  refine TO.s rfl rfl rfl (StepS.move rfl) ?_
                  obtain ⟨x125, hx126, hb89⟩ := bind_some hb89
                  refine TO.s rfl rfl rfl (StepS.idx rfl rfl (OwnS.rd (Ent.at 0 rfl)) ksliceB_22_3_1_true (idx_spec hx126).1 (idxm_lt hx126)) ?_
                  refine TO.stO (i := ((w64 (x77 + 1)).tmod (a0.length : Int)).toNat) (off := 0) (us := [I x112]) 0 x112 rfl rfl rfl ksizeB_3_1_true rfl rfl rfl (idx_spec hx126).2 rfl (by simp [Value.oneCell']) rfl ?_
                  refine TO.code ?_
                  refine TC.region ?_
                  refine TO.s rfl rfl rfl (StepS.move rfl) ?_
                  refine TO.s rfl rfl rfl (StepS.ari rfl rfl rfl) ?_
                  refine TO.s rfl rfl rfl (StepS.assign rfl) ?_
                  refine TO.code ?_
                  refine TC.region ?_
                  refine TO.s rfl rfl rfl (StepS.move rfl) ?_
                  refine TO.s rfl rfl rfl (StepS.ari rfl rfl rfl) ?_
                  refine TO.s rfl rfl rfl (StepS.assign rfl) ?_
                  cases hb89
                  refine TO.nil fun a w e s => ?_
                  exact ⟨e.sub (lk_of_allIn ⟨rfl, rfl, rfl, rfl, rfl, rfl, rfl, rfl, rfl, rfl, trivial⟩), s⟩
        · replace hb89 := cond_f hc90 hb89
          cases hb89
          refine TC.exit rfl fun a w e s => ?_
          exact ⟨e.sub (lk_of_allIn ⟨rfl, rfl, rfl, rfl, rfl, rfl, rfl, trivial⟩), s⟩
      · exact fun a w e s => ⟨e.sub (lk_of_allIn ⟨rfl, rfl, rfl, rfl, rfl, rfl, rfl, rfl, rfl, rfl, trivial⟩), s⟩
      · rintro ⟨y83, y84, y85, x86⟩ rfl a w ⟨he, hs⟩
        dsimp only [Ctl.on] at hb64
        refine TC.use ?_ he hs
        refine TC.k ?_
        refine TC.region ?_
        refine TO.s rfl rfl rfl (StepS.move rfl) ?_
        refine TO.s rfl rfl rfl (StepS.assign rfl) ?_
        refine TO.code ?_
        refine TC.k ?_
        refine TC.region ?_
        refine TO.s rfl rfl rfl (StepS.move rfl) ?_
        refine TO.s rfl rfl rfl (StepS.assign rfl) ?_
        refine TO.code ?_
        refine TC.region ?_
        refine TO.s rfl rfl rfl (StepS.move rfl) ?_
        refine TO.s rfl rfl rfl (StepS.move rfl) ?_
        refine TO.s rfl rfl rfl (StepS.ari rfl rfl rfl) ?_
        refine TO.s rfl rfl rfl (StepS.assign rfl) ?_
        cases hb64
        refine TO.nil fun a w e s => ?_
        exact ⟨v67, v71, e.sub (lk_of_allIn ⟨rfl, rfl, rfl, rfl, rfl, rfl, trivial⟩), s.mono fun _ s => (by replace s := Sat.front 4 rfl s; replace s := Sat.front 1 rfl s; replace s := Sat.front 2 rfl s; replace s := Sat.erase 3 s; replace s := Sat.erase 3 s; exact s)⟩
      · rintro r rfl
        cases hb64
        exact fun a w h => h
    · exact fun a w e s => ⟨v8, v12, e.sub (lk_of_allIn ⟨rfl, rfl, rfl, rfl, rfl, rfl, trivial⟩), s.mono fun _ s => (by replace s := Sat.front 2 rfl s; replace s := Sat.front 1 rfl s; replace s := Sat.front 2 rfl s; exact s)⟩
    · intro b hb0; subst hb0; exact absurd hm (by simp)
    · rintro r rfl
      cases hm
      exact fun a w h => h
  · rintro r rfl
    exact fun a w h => h.elim

set_option maxRecDepth 100000 in
theorem C11 {B : World} {L : List HP} {a0 : List Int} {a1 : List Bool} {h0 : Value} {h1 : Value} {r0 : Bool} (e0 : Ent L (Rd 1 h0 (a0.map cI))) (e1 : Ent L (Rd 1 h1 (a1.map cB))) (hm : F11 a0 a1 = some r0) {w : World} (st : St B L w) : Calls Try.prog 11 #[h0, h1] w (fun e w' => (e = .returned (.bool r0) ∧ St B (L) w')) := by
  refine calls_of (N := 80) (L := L) (args := [h0, h1]) Try.func11 rfl rfl rfl ?_ st
  dsimp only [F11] at hm
  refine TC.k ?_
  refine TC.region ?_
  refine TO.s rfl rfl rfl (StepS.assign rfl) ?_
  refine TO.code ?_
  refine TC.k ?_
  refine TC.region ?_
  refine TO.s rfl rfl rfl (StepS.move rfl) ?_
  refine TO.s rfl rfl rfl (StepS.move rfl) ?_
  obtain ⟨⟨r1, r2, r3⟩, hc4, hm⟩ := bind_some hm
  refine TO.q rfl rfl rfl (StepQ.call kcallB_34_true rfl rfl (fun _ st => C34 e0 e1 hc4 st)) ?_
  refine TO.s rfl rfl rfl (StepS.move rfl) ?_
  refine TO.s rfl rfl rfl (StepS.extract rfl rfl) ?_
  refine TO.s rfl rfl rfl (StepS.extract rfl rfl) ?_
  refine TO.s rfl rfl rfl (StepS.extract rfl rfl) ?_
  refine TO.s rfl rfl rfl (StepS.assign rfl) ?_
  refine TO.s rfl rfl rfl (StepS.assign rfl) ?_
  refine TO.s rfl rfl rfl (StepS.assign rfl) ?_
  refine TO.code ?_
  refine TC.k ?_
  refine TC.region ?_
  refine TO.s rfl rfl rfl (StepS.move rfl) ?_
  obtain ⟨r5, hc6, hm⟩ := bind_some hm
  refine TO.q rfl rfl rfl (StepQ.call kcallB_31_true rfl rfl (fun _ st => C31 e0 hc6 st)) ?_
  refine TO.s rfl rfl rfl (StepS.assign rfl) ?_
  refine TO.code ?_
  refine TC.k ?_
  refine TC.k ?_
  refine TC.region ?_
  refine TO.s rfl rfl rfl (StepS.move rfl) ?_
  refine TO.s rfl rfl rfl (StepS.cmp rfl rfl rfl) ?_
  refine TO.s rfl rfl rfl (StepS.move rfl) ?_
  refine TO.mid1 6 31 (.bool ((r5 == 0) && ((a1.length : Int) != (a0.length : Int)))) ?_ ?_
  · refine bcase ((r5 == 0)) (fun hb7 => ?_) (fun hb7 => ?_)
    · refine TO.sw rfl rfl rfl hb7 rfl rfl (StepS.move rfl) ?_
      refine TO.sw rfl rfl rfl hb7 rfl rfl (StepS.lenm rfl e1 ksliceB_53_4_1_true rfl) ?_
      refine TO.sw rfl rfl rfl hb7 rfl rfl (StepS.move rfl) ?_
      refine TO.sw rfl rfl rfl hb7 rfl rfl (StepS.lenm rfl e0 ksliceB_22_3_1_true rfl) ?_
      refine TO.sw rfl rfl rfl hb7 rfl rfl (StepS.cmp rfl rfl rfl) ?_
      refine TO.s rfl rfl rfl (StepS.pickT rfl hb7 rfl) ?_
      exact TO.up1 6 0 rfl rfl (by rw [hb7]; rfl) rfl
    · refine TO.skip rfl rfl rfl (skipF hb7) rfl rfl ?_
      refine TO.skip rfl rfl rfl (skipF hb7) rfl rfl ?_
      refine TO.skip rfl rfl rfl (skipF hb7) rfl rfl ?_
      refine TO.skip rfl rfl rfl (skipF hb7) rfl rfl ?_
      refine TO.skip rfl rfl rfl (skipF hb7) rfl rfl ?_
      refine TO.s rfl rfl rfl (StepS.pickF rfl hb7 rfl) ?_
      exact TO.up1 6 0 rfl rfl (by rw [hb7]; rfl) rfl
  refine TO.code ?_
  obtain ⟨x8, hj9, hm⟩ := bind_some hm
  first | refine TC.cutM (fun a w => Mid 80 B [(0, h0), (1, h1), (5, I r1), (6, I r2), (7, I r3), (8, I x8)] (L) a w) ?_ ?_ | refine TC.cutX (fun a w => Mid 80 B [(0, h0), (1, h1), (5, I r1), (6, I r2), (7, I r3), (8, I x8)] (L) a w) ?_ ?_
  · refine TC.cond rfl (fun hc10 => ?_) (fun hc10 => ?_)
    · replace hj9 := cond_t hc10 hj9
      refine TC.region ?_
      refine TO.s rfl rfl rfl (StepS.assign rfl) ?_
      cases hj9
      refine TO.nil fun a w e s => ?_
      exact ⟨e.sub (lk_of_allIn ⟨rfl, rfl, rfl, rfl, rfl, rfl, trivial⟩), s⟩
    · replace hj9 := cond_f hc10 hj9
      cases hj9
      refine TC.skip fun a w e s => ?_
      exact ⟨e.sub (lk_of_allIn ⟨rfl, rfl, rfl, rfl, rfl, rfl, trivial⟩), s⟩
  · intro a w ⟨he, hs⟩
    refine TC.use ?_ he hs
    refine TC.k ?_
    refine TC.region ?_
    refine TO.s rfl rfl rfl (StepS.assign rfl) ?_
    refine TO.code ?_
    refine TC.k ?_
    refine TC.k ?_
    refine TC.region ?_
    refine TO.s rfl rfl rfl (StepS.move rfl) ?_
    refine TO.s rfl rfl rfl (StepS.lenm rfl e1 ksliceB_53_4_1_true rfl) ?_
    refine TO.s rfl rfl rfl (StepS.move rfl) ?_
    refine TO.code ?_
    obtain ⟨o16, hw17, hm⟩ := bind_some hm
    refine TC.loop hw17 (fun (b11, x12) => fun a w => Mid 80 B [(0, h0), (1, h1), (5, I r1), (6, I r2), (7, I r3), (8, I x8), (9, .bool b11), (32, h1), (33, I (a1.length : Int)), (34, I x12)] (L) a w) (fun b15 => fun a w => Mid 80 B [(0, h0), (1, h1), (5, I r1), (6, I r2), (7, I r3), (8, I x8), (9, .bool b15)] (L) a w) (fun (_ : Unit) _ _ => False) ?_ ?_ ?_ ?_
    · rintro ⟨b11, x12⟩ o16r hb18 a w ⟨he, hs⟩
      dsimp only [F11_L0] at hb18
      refine TC.use ?_ he hs
      refine TC.k ?_
      refine TC.region ?_
      refine TO.s rfl rfl rfl (StepS.cmp rfl rfl rfl) ?_
      refine TO.code ?_
      refine TC.k ?_
      refine TC.cond rfl (fun hc19 => ?_) (fun hc19 => ?_)
      · replace hb18 := cond_t hc19 hb18
        refine TC.skipk ?_
        refine TC.k ?_
        refine TC.block ?_
        refine TC.k ?_
        refine TC.region ?_
        obtain ⟨x20, hx21, hb18⟩ := bind_some hb18
        refine TO.s rfl rfl rfl (StepS.idx rfl rfl e1 ksliceB_53_4_1_true (idx_spec hx21).1 (idxm_lt hx21)) ?_
        refine TO.s rfl rfl rfl (StepS.ld0 rfl e1 kscalB_4_true rfl (idxm hx21) rfl) ?_
        refine TO.s rfl rfl rfl (StepS.assign rfl) ?_
        refine TO.code ?_
        refine TC.region ?_
        refine TO.s rfl rfl rfl (StepS.move rfl) ?_
        refine TO.s rfl rfl rfl (StepS.move rfl) ?_
        refine TO.mid1 2 41 (.bool (b11 || x20)) ?_ ?_
        · refine bcase (b11) (fun hb22 => ?_) (fun hb22 => ?_)
          · refine TO.skip rfl rfl rfl (skipT hb22) rfl rfl ?_
            refine TO.s rfl rfl rfl (StepS.pickT rfl hb22 rfl) ?_
            exact TO.up1 2 0 rfl rfl (by rw [hb22]; rfl) rfl
          · refine TO.sw rfl rfl rfl hb22 rfl rfl (StepS.move rfl) ?_
            refine TO.s rfl rfl rfl (StepS.pickF rfl hb22 rfl) ?_
            exact TO.up1 2 0 rfl rfl (by rw [hb22]; rfl) rfl
        refine TO.s rfl rfl rfl (StepS.assign rfl) ?_
        refine TO.code ?_
        refine TC.region ?_
        refine TO.s rfl rfl rfl (StepS.ari rfl rfl rfl) ?_
        refine TO.s rfl rfl rfl (StepS.move rfl) ?_
        cases hb18
        refine TO.nil fun a w e s => ?_
        exact ⟨e.sub (lk_of_allIn ⟨rfl, rfl, rfl, rfl, rfl, rfl, rfl, rfl, rfl, rfl, trivial⟩), s⟩
      · replace hb18 := cond_f hc19 hb18
        cases hb18
        refine TC.exit rfl fun a w e s => ?_
        exact ⟨e.sub (lk_of_allIn ⟨rfl, rfl, rfl, rfl, rfl, rfl, rfl, trivial⟩), s⟩
    · exact fun a w e s => ⟨e.sub (lk_of_allIn ⟨rfl, rfl, rfl, rfl, rfl, rfl, rfl, rfl, rfl, rfl, trivial⟩), s⟩
    · rintro b15 rfl a w ⟨he, hs⟩
      dsimp only [Ctl.on] at hm
      refine TC.use ?_ he hs
      refine TC.k ?_
      refine TC.k ?_
      refine TC.region ?_
      refine TO.s rfl rfl rfl (StepS.move rfl) ?_
      refine TO.s rfl rfl rfl (StepS.cmp rfl rfl rfl) ?_
      refine TO.s rfl rfl rfl (StepS.move rfl) ?_
      refine TO.mid1 3 48 (.bool ((x8 == 0) && (!b15))) ?_ ?_
      · refine bcase ((x8 == 0)) (fun hb23 => ?_) (fun hb23 => ?_)
        · refine TO.sw rfl rfl rfl hb23 rfl rfl (StepS.move rfl) ?_
          refine TO.sw rfl rfl rfl hb23 rfl rfl (StepS.not rfl) ?_
          refine TO.s rfl rfl rfl (StepS.pickT rfl hb23 rfl) ?_
          exact TO.up1 3 0 rfl rfl (by rw [hb23]; rfl) rfl
        · refine TO.skip rfl rfl rfl (skipF hb23) rfl rfl ?_
          refine TO.skip rfl rfl rfl (skipF hb23) rfl rfl ?_
          refine TO.s rfl rfl rfl (StepS.pickF rfl hb23 rfl) ?_
          exact TO.up1 3 0 rfl rfl (by rw [hb23]; rfl) rfl
      refine TO.code ?_
      obtain ⟨x24, hj25, hm⟩ := bind_some hm
      first | refine TC.cutM (fun a w => Mid 80 B [(0, h0), (1, h1), (5, I r1), (6, I r2), (7, I r3), (8, I x24)] (L) a w) ?_ ?_ | refine TC.cutX (fun a w => Mid 80 B [(0, h0), (1, h1), (5, I r1), (6, I r2), (7, I r3), (8, I x24)] (L) a w) ?_ ?_
      · refine TC.cond rfl (fun hc26 => ?_) (fun hc26 => ?_)
        · replace hj25 := cond_t hc26 hj25
          refine TC.region ?_
          refine TO.s rfl rfl rfl (StepS.assign rfl) ?_
          cases hj25
          refine TO.nil fun a w e s => ?_
          exact ⟨e.sub (lk_of_allIn ⟨rfl, rfl, rfl, rfl, rfl, rfl, trivial⟩), s⟩
        · replace hj25 := cond_f hc26 hj25
          cases hj25
          refine TC.skip fun a w e s => ?_
          exact ⟨e.sub (lk_of_allIn ⟨rfl, rfl, rfl, rfl, rfl, rfl, trivial⟩), s⟩
      · intro a w ⟨he, hs⟩
        refine TC.use ?_ he hs
        refine TC.k ?_
        refine TC.k ?_
        refine TC.region ?_
        refine TO.s rfl rfl rfl (StepS.move rfl) ?_
        refine TO.s rfl rfl rfl (StepS.cmp rfl rfl rfl) ?_
        refine TO.code ?_
        refine TC.cond rfl (fun hc27 => ?_) (fun hc27 => ?_)
        · replace hm := cond_t hc27 hm
          refine TC.k ?_
          refine TC.region ?_
          refine TO.s rfl rfl rfl (StepS.move rfl) ?_
          refine TO.s rfl rfl rfl (StepS.move rfl) ?_
          refine TO.s rfl rfl rfl (StepS.cmp rfl rfl rfl) ?_
          refine TO.s rfl rfl rfl (StepS.move rfl) ?_
          refine TO.mid1 3 57 (.bool ((r3 == x24) && (r1 == 0))) ?_ ?_
          · refine bcase ((r3 == x24)) (fun hb28 => ?_) (fun hb28 => ?_)
            · refine TO.sw rfl rfl rfl hb28 rfl rfl (StepS.move rfl) ?_
              refine TO.sw rfl rfl rfl hb28 rfl rfl (StepS.cmp rfl rfl rfl) ?_
              refine TO.s rfl rfl rfl (StepS.pickT rfl hb28 rfl) ?_
              exact TO.up1 3 0 rfl rfl (by rw [hb28]; rfl) rfl
            · refine TO.skip rfl rfl rfl (skipF hb28) rfl rfl ?_
              refine TO.skip rfl rfl rfl (skipF hb28) rfl rfl ?_
              refine TO.s rfl rfl rfl (StepS.pickF rfl hb28 rfl) ?_
              exact TO.up1 3 0 rfl rfl (by rw [hb28]; rfl) rfl
          refine TO.s rfl rfl rfl (StepS.move rfl) ?_
          refine TO.mid1 3 61 (.bool (((r3 == x24) && (r1 == 0)) && (r2 == 0))) ?_ ?_
          · refine bcase (((r3 == x24) && (r1 == 0))) (fun hb29 => ?_) (fun hb29 => ?_)
            · refine TO.sw rfl rfl rfl hb29 rfl rfl (StepS.move rfl) ?_
              refine TO.sw rfl rfl rfl hb29 rfl rfl (StepS.cmp rfl rfl rfl) ?_
              refine TO.s rfl rfl rfl (StepS.pickT rfl hb29 rfl) ?_
              exact TO.up1 3 0 rfl rfl (by rw [hb29]; rfl) rfl
            · refine TO.skip rfl rfl rfl (skipF hb29) rfl rfl ?_
              refine TO.skip rfl rfl rfl (skipF hb29) rfl rfl ?_
              refine TO.s rfl rfl rfl (StepS.pickF rfl hb29 rfl) ?_
              exact TO.up1 3 0 rfl rfl (by rw [hb29]; rfl) rfl
          refine TO.s rfl rfl rfl (StepS.assign rfl) ?_
          refine TO.code ?_
          cases hm
          refine TC.ret fun a w e s => ?_
          refine FRet.mk1 (P := Try.prog) (fn := Try.f11) (t := 4) e rfl rfl ?_
          exact ⟨rfl, s.mono fun _ => Sat.dropN 0⟩
        · replace hm := cond_f hc27 hm
          refine TC.skipk ?_
          refine TC.k ?_
          refine TC.region ?_
          refine TO.s rfl rfl rfl (StepS.move rfl) ?_
          refine TO.s rfl rfl rfl (StepS.move rfl) ?_
          obtain ⟨⟨r30, r31⟩, hc32, hm⟩ := bind_some hm
          refine TO.q rfl rfl rfl (StepQ.call kcallB_35_true rfl rfl (fun _ st => C35 e0 e1 hc32 st)) ?_
          refine TO.s rfl rfl rfl (StepS.move rfl) ?_
          refine TO.s rfl rfl rfl (StepS.extract rfl rfl) ?_
          refine TO.s rfl rfl rfl (StepS.extract rfl rfl) ?_
          refine TO.s rfl rfl rfl (StepS.assign rfl) ?_
          refine TO.s rfl rfl rfl (StepS.assign rfl) ?_
          refine TO.code ?_
          refine TC.k ?_
          refine TC.region ?_
          refine TO.s rfl rfl rfl (StepS.move rfl) ?_
          refine TO.s rfl rfl rfl (StepS.cmp rfl rfl rfl) ?_
          refine TO.s rfl rfl rfl (StepS.move rfl) ?_
          refine TO.mid1 4 74 (.bool ((r3 == 0) && (r1 == r30))) ?_ ?_
          · refine bcase ((r3 == 0)) (fun hb33 => ?_) (fun hb33 => ?_)
            · refine TO.sw rfl rfl rfl hb33 rfl rfl (StepS.move rfl) ?_
              refine TO.sw rfl rfl rfl hb33 rfl rfl (StepS.move rfl) ?_
              refine TO.sw rfl rfl rfl hb33 rfl rfl (StepS.cmp rfl rfl rfl) ?_
              refine TO.s rfl rfl rfl (StepS.pickT rfl hb33 rfl) ?_
              exact TO.up1 4 0 rfl rfl (by rw [hb33]; rfl) rfl
            · refine TO.skip rfl rfl rfl (skipF hb33) rfl rfl ?_
              refine TO.skip rfl rfl rfl (skipF hb33) rfl rfl ?_
              refine TO.skip rfl rfl rfl (skipF hb33) rfl rfl ?_
              refine TO.s rfl rfl rfl (StepS.pickF rfl hb33 rfl) ?_
              exact TO.up1 4 0 rfl rfl (by rw [hb33]; rfl) rfl
          refine TO.s rfl rfl rfl (StepS.move rfl) ?_
          refine TO.mid1 4 79 (.bool (((r3 == 0) && (r1 == r30)) && (r2 == r31))) ?_ ?_
          · refine bcase (((r3 == 0) && (r1 == r30))) (fun hb34 => ?_) (fun hb34 => ?_)
            · refine TO.sw rfl rfl rfl hb34 rfl rfl (StepS.move rfl) ?_
              refine TO.sw rfl rfl rfl hb34 rfl rfl (StepS.move rfl) ?_
              refine TO.sw rfl rfl rfl hb34 rfl rfl (StepS.cmp rfl rfl rfl) ?_
              refine TO.s rfl rfl rfl (StepS.pickT rfl hb34 rfl) ?_
              exact TO.up1 4 0 rfl rfl (by rw [hb34]; rfl) rfl
            · refine TO.skip rfl rfl rfl (skipF hb34) rfl rfl ?_
              refine TO.skip rfl rfl rfl (skipF hb34) rfl rfl ?_
              refine TO.skip rfl rfl rfl (skipF hb34) rfl rfl ?_
              refine TO.s rfl rfl rfl (StepS.pickF rfl hb34 rfl) ?_
              exact TO.up1 4 0 rfl rfl (by rw [hb34]; rfl) rfl
          refine TO.s rfl rfl rfl (StepS.assign rfl) ?_
          refine TO.code ?_
          cases hm
          refine TC.ret fun a w e s => ?_
          refine FRet.mk1 (P := Try.prog) (fn := Try.f11) (t := 4) e rfl rfl ?_
          exact ⟨rfl, s.mono fun _ => Sat.dropN 0⟩
    · rintro r rfl
      exact fun a w h => h.elim
end Go.Proofs.Ytdjmlbjkendobaa
