/-
  The walks: each Go function returns what its model says. Written by a program (gen.py).
-/
import Derived.Test.YtmlfflaelbofmaaProg
import Derived.KernelRfl
import Derived.Test.YtmlfflaelbofmaaPM
namespace Go.Proofs.Ytmlfflaelbofmaa
open Go Go.Bk
set_option linter.unusedVariables false
set_option linter.unnecessarySimpa false
theorem ksliceB_34_35_1_true : sliceB Try.prog 34 35 1 = true := by kernel_rfl
theorem kscalB_35_true : scalB Try.prog 35 = true := by kernel_rfl
theorem kfollows_mixedOrders_true : Try.prog.follows .mixedOrders = true := by kernel_rfl
theorem kunderlying_9_some_string : Try.prog.underlying 9 = some .string := by kernel_rfl
theorem kintB_5_u8_true : intB Try.prog 5 .u8 = true := by kernel_rfl
theorem kintB_3_i64_true : intB Try.prog 3 .i64 = true := by kernel_rfl
theorem kcallB_52_true : callB Try.prog 52 = true := by kernel_rfl
theorem kelemB_28_3_1_8_true : elemB Try.prog 28 3 1 8 = true := by kernel_rfl
theorem kinfo_3_bind_zero_some_I_0 : (Try.prog.info? 3).bind (·.zero) = some (I 0) := by kernel_rfl
theorem ksliceB_28_3_1_true : sliceB Try.prog 28 3 1 = true := by kernel_rfl
theorem kscalB_3_true : scalB Try.prog 3 = true := by kernel_rfl
theorem kcallB_53_true : callB Try.prog 53 = true := by kernel_rfl
theorem kintB_44_u64_true : intB Try.prog 44 .u64 = true := by kernel_rfl
theorem kcallB_29_true : callB Try.prog 29 = true := by kernel_rfl
theorem kcallB_27_true : callB Try.prog 27 = true := by kernel_rfl
theorem kcallB_23_true : callB Try.prog 23 = true := by kernel_rfl
theorem kcallB_28_true : callB Try.prog 28 = true := by kernel_rfl
theorem kcallB_30_true : callB Try.prog 30 = true := by kernel_rfl
theorem kunderlying_4_some_bool : Try.prog.underlying 4 = some .bool := by kernel_rfl

set_option maxRecDepth 100000 in
theorem C52 {B : World} {L : List HP} {a0 : List (BitVec 32)} {h0 : Value} {r0 : Int} (e0 : Ent L (Rd 1 h0 (a0.map cU))) (hm : F52 a0 = some r0) {w : World} (st : St B L w) : Calls Try.prog 52 #[h0] w (fun e w' => (e = .returned (I r0) ∧ St B (L) w')) := by
  refine calls_of (N := 25) (L := L) (args := [h0]) Try.func52 rfl rfl rfl ?_ st
  dsimp only [F52] at hm
  refine TC.k ?_
  refine TC.region ?_
  refine TO.s rfl rfl rfl (StepS.assign rfl) ?_
  refine TO.code ?_
  refine TC.k ?_
  refine TC.k ?_
  refine TC.region ?_
  refine TO.s rfl rfl rfl (StepS.move rfl) ?_
  refine TO.s rfl rfl rfl (StepS.lenm rfl e0 ksliceB_34_35_1_true rfl) ?_
  refine TO.s rfl rfl rfl (StepS.cmp rfl rfl rfl) ?_
  refine TO.s rfl rfl rfl (StepS.move rfl) ?_
  refine TO.mid1 4 12 (.bool ((decide ((a0.length : Int) < 1)) || (decide ((a0.length : Int) > 6)))) ?_ ?_
  · refine bcase ((decide ((a0.length : Int) < 1))) (fun hb1 => ?_) (fun hb1 => ?_)
    · refine TO.skip rfl rfl rfl (skipT hb1) rfl rfl ?_
      refine TO.skip rfl rfl rfl (skipT hb1) rfl rfl ?_
      refine TO.skip rfl rfl rfl (skipT hb1) rfl rfl ?_
      refine TO.s rfl rfl rfl (StepS.pickT rfl hb1 rfl) ?_
      exact TO.up1 4 0 rfl rfl (by rw [hb1]; rfl) rfl
    · refine TO.sw rfl rfl rfl hb1 rfl rfl (StepS.move rfl) ?_
      refine TO.sw rfl rfl rfl hb1 rfl rfl (StepS.lenm rfl e0 ksliceB_34_35_1_true rfl) ?_
      refine TO.sw rfl rfl rfl hb1 rfl rfl (StepS.cmp rfl rfl rfl) ?_
      refine TO.s rfl rfl rfl (StepS.pickF rfl hb1 rfl) ?_
      exact TO.up1 4 0 rfl rfl (by rw [hb1]; rfl) rfl
  refine TO.code ?_
  refine TC.cond rfl (fun hc2 => ?_) (fun hc2 => ?_)
  · replace hm := cond_t hc2 hm
    refine TC.k ?_
    refine TC.region ?_
    refine TO.s rfl rfl rfl (StepS.assign rfl) ?_
    refine TO.code ?_
    cases hm
    refine TC.ret fun a w e s => ?_
    refine FRet.mk1 (P := Try.prog) (fn := Try.f52) (t := 2) e rfl rfl ?_
    exact ⟨rfl, s.mono fun _ => Sat.dropN 0⟩
  · replace hm := cond_f hc2 hm
    refine TC.skipk ?_
    refine TC.k ?_
    refine TC.k ?_
    refine TC.region ?_
    refine TO.s rfl rfl rfl (StepS.move rfl) ?_
    refine TO.s rfl rfl rfl (StepS.lenm rfl e0 ksliceB_34_35_1_true rfl) ?_
    refine TO.s rfl rfl rfl (StepS.move rfl) ?_
    refine TO.code ?_
    obtain ⟨o5, hw6, hm⟩ := bind_some hm
    refine TC.loop hw6 (fun x3 => fun a w => Mid 25 B [(0, h0), (13, h0), (14, I (a0.length : Int)), (15, I x3)] (L) a w) (fun _ => fun a w => Mid 25 B [] (L) a w) (fun r0 => FRet Try.prog Try.f52 (fun e w' => (e = .returned (I r0) ∧ St B (L) w'))) ?_ ?_ ?_ ?_
    · rintro x3 o5r hb7 a w ⟨he, hs⟩
      dsimp only [F52_L0] at hb7
      refine TC.use ?_ he hs
      refine TC.k ?_
      refine TC.region ?_
      refine TO.s rfl rfl rfl (StepS.cmp rfl rfl rfl) ?_
      refine TO.code ?_
      refine TC.k ?_
      refine TC.cond rfl (fun hc8 => ?_) (fun hc8 => ?_)
      · replace hb7 := cond_t hc8 hb7
        refine TC.skipk ?_
        refine TC.k ?_
        refine TC.block ?_
        refine TC.k ?_
        refine TC.region ?_
        obtain ⟨x9, hx10, hb7⟩ := bind_some hb7
        refine TO.s rfl rfl rfl (StepS.idx rfl rfl e0 ksliceB_34_35_1_true (idx_spec hx10).1 (idxm_lt hx10)) ?_
        refine TO.s rfl rfl rfl (StepS.ld0 rfl e0 kscalB_35_true rfl (idxm hx10) rfl) ?_
        refine TO.s rfl rfl rfl (StepS.assign rfl) ?_
        refine TO.code ?_
        refine TC.k ?_
        refine TC.region ?_
        refine TO.s rfl rfl rfl (StepS.move rfl) ?_
        refine TO.s rfl rfl rfl (StepS.move rfl) ?_
        refine TO.s rfl rfl rfl (StepS.lenm rfl e0 ksliceB_34_35_1_true rfl) ?_
        obtain ⟨k11, hk12, hb7⟩ := bind_some hb7
        refine TO.s rfl rfl rfl (StepS.shrk rfl rfl hk12) ?_
        refine TO.s rfl rfl rfl (StepS.cmpU (n := 0#32) rfl rfl rfl) ?_
        refine TO.code ?_
        refine TC.cond rfl (fun hc13 => ?_) (fun hc13 => ?_)
        · replace hb7 := cond_t hc13 hb7
          refine TC.k ?_
          refine TC.region ?_
          refine TO.s rfl rfl rfl (StepS.assign rfl) ?_
          refine TO.code ?_
          cases hb7
          refine TC.ret fun a w e s => ?_
          refine FRet.mk1 (P := Try.prog) (fn := Try.f52) (t := 2) e rfl rfl ?_
          exact ⟨rfl, s.mono fun _ => Sat.dropN 0⟩
        · replace hb7 := cond_f hc13 hb7
          refine TC.skipk ?_
          refine TC.region ?_
          refine TO.s rfl rfl rfl (StepS.ari rfl rfl rfl) ?_
          refine TO.s rfl rfl rfl (StepS.move rfl) ?_
          cases hb7
          refine TO.nil fun a w e s => ?_
          exact ⟨e.sub (lk_of_allIn ⟨rfl, rfl, rfl, rfl, trivial⟩), s⟩
      · replace hb7 := cond_f hc8 hb7
        cases hb7
        refine TC.exit rfl fun a w e s => ?_
        exact ⟨e.sub (lk_of_allIn trivial), s⟩
    · exact fun a w e s => ⟨e.sub (lk_of_allIn ⟨rfl, rfl, rfl, rfl, trivial⟩), s⟩
    · rintro _ rfl a w ⟨he, hs⟩
      dsimp only [Ctl.on] at hm
      refine TC.use ?_ he hs
      refine TC.k ?_
      refine TC.region ?_
      refine TO.s rfl rfl rfl (StepS.assign rfl) ?_
      refine TO.code ?_
      cases hm
      refine TC.ret fun a w e s => ?_
      refine FRet.mk1 (P := Try.prog) (fn := Try.f52) (t := 2) e rfl rfl ?_
      exact ⟨rfl, s.mono fun _ => Sat.dropN 0⟩
    · rintro r rfl
      cases hm
      exact fun a w h => h

set_option maxRecDepth 100000 in
theorem C53 {B : World} {L : List HP} {a0 : BitVec 32} {r0 : Int} (hm : F53 a0 = some r0) {w : World} (st : St B L w) : Calls Try.prog 53 #[U a0] w (fun e w' => (e = .returned (I r0) ∧ St B (L) w')) := by
  refine calls_of (N := 21) (L := L) (args := [U a0]) Try.func53 rfl rfl rfl ?_ st
  dsimp only [F53] at hm
  refine TC.k ?_
  refine TC.region ?_
  refine TO.s rfl rfl rfl (StepS.assign rfl) ?_
  refine TO.code ?_
  refine TC.k ?_
  refine TC.region_still kfollows_mixedOrders_true (by kernel_rfl) ?_
  refine TS.s rfl rfl rfl (StepS.move rfl) ?_
  refine TS.s rfl rfl rfl (StepS.shr rfl rfl (by decide)) ?_
  obtain ⟨x1, hx2, hm⟩ := bind_some hm
  refine TS.s rfl rfl rfl (StepS.idxTab rfl kunderlying_9_some_string (by kernel_rfl) hx2) ?_
  refine TS.s rfl rfl rfl (StepS.move rfl) ?_
  refine TS.s rfl rfl rfl (StepS.shr rfl rfl (by decide)) ?_
  refine TS.s rfl rfl rfl (StepS.bitU (n := 255#32) rfl rfl rfl) ?_
  obtain ⟨x3, hx4, hm⟩ := bind_some hm
  refine TS.s rfl rfl rfl (StepS.idxTab rfl kunderlying_9_some_string (by kernel_rfl) hx4) ?_
  refine TS.s rfl rfl rfl (StepS.addB rfl rfl) ?_
  refine TS.s rfl rfl rfl (StepS.move rfl) ?_
  refine TS.s rfl rfl rfl (StepS.shr rfl rfl (by decide)) ?_
  refine TS.s rfl rfl rfl (StepS.bitU (n := 255#32) rfl rfl rfl) ?_
  obtain ⟨x5, hx6, hm⟩ := bind_some hm
  refine TS.s rfl rfl rfl (StepS.idxTab rfl kunderlying_9_some_string (by kernel_rfl) hx6) ?_
  refine TS.s rfl rfl rfl (StepS.addB rfl rfl) ?_
  refine TS.s rfl rfl rfl (StepS.move rfl) ?_
  refine TS.s rfl rfl rfl (StepS.bitU (n := 255#32) rfl rfl rfl) ?_
  obtain ⟨x7, hx8, hm⟩ := bind_some hm
  refine TS.s rfl rfl rfl (StepS.idxTab rfl kunderlying_9_some_string (by kernel_rfl) hx8) ?_
  refine TS.s rfl rfl rfl (StepS.addB rfl rfl) ?_
  refine TS.s rfl rfl rfl (StepS.cvB kintB_5_u8_true kintB_3_i64_true rfl) ?_
  refine TS.s rfl rfl rfl (StepS.assign rfl) ?_
  refine TS.code ?_
  cases hm
  refine TC.ret fun a w e s => ?_
  refine FRet.mk1 (P := Try.prog) (fn := Try.f53) (t := 2) e rfl rfl ?_
  exact ⟨rfl, s.mono fun _ => Sat.dropN 0⟩

set_option maxRecDepth 100000 in
theorem C27 {B : World} {L : List HP} {a0 : List (BitVec 32)} {a1 : Int} {h0 : Value} {r0 : Bool} {r1 : Int} {r2 : Int} (e0 : Ent L (Rd 1 h0 (a0.map cU))) (hm : F27 a0 a1 = some (r0, r1, r2)) {w : World} (st : St B L w) : Calls Try.prog 27 #[h0, I a1] w (fun e w' => (e = .returned (.tuple #[.bool r0, I r1, I r2]) ∧ St B (L) w')) := by
  refine calls_of (N := 77) (L := L) (args := [h0, I a1]) Try.func27 rfl rfl rfl ?_ st
  dsimp only [F27] at hm
  refine TC.k ?_
  refine TC.region ?_
  refine TO.s rfl rfl rfl (StepS.assign rfl) ?_
  refine TO.s rfl rfl rfl (StepS.assign rfl) ?_
  refine TO.s rfl rfl rfl (StepS.assign rfl) ?_
  refine TO.code ?_
  refine TC.k ?_
  refine TC.k ?_
  refine TC.region ?_
  refine TO.s rfl rfl rfl (StepS.move rfl) ?_
  obtain ⟨r1, hc2, hm⟩ := bind_some hm
  refine TO.q rfl rfl rfl (StepQ.call kcallB_52_true rfl rfl (fun _ st => C52 e0 hc2 st)) ?_
  refine TO.s rfl rfl rfl (StepS.assign rfl) ?_
  refine TO.code ?_
  refine TC.k ?_
  refine TC.region ?_
  refine TO.s rfl rfl rfl (StepS.move rfl) ?_
  refine TO.s rfl rfl rfl (StepS.cmp rfl rfl rfl) ?_
  refine TO.code ?_
  refine TC.cond rfl (fun hc3 => ?_) (fun hc3 => ?_)
  · replace hm := cond_t hc3 hm
    refine TC.k ?_
    refine TC.region ?_
    refine TO.s rfl rfl rfl (StepS.move rfl) ?_
    refine TO.s rfl rfl rfl (StepS.assign rfl) ?_
    refine TO.s rfl rfl rfl (StepS.assign rfl) ?_
    refine TO.s rfl rfl rfl (StepS.assign rfl) ?_
    refine TO.code ?_
    cases hm
    refine TC.ret fun a w e s => ?_
    refine FRet.mk3 (P := Try.prog) (fn := Try.f27) (t := 4) (u := 5) (s := 6) e rfl rfl rfl rfl ?_
    exact ⟨rfl, s.mono fun _ => Sat.dropN 0⟩
  · replace hm := cond_f hc3 hm
    refine TC.skipk ?_
    refine TC.k ?_
    refine TC.k ?_
    refine TC.region ?_
    refine TO.s rfl rfl rfl (StepS.move rfl) ?_
    refine TO.s rfl rfl rfl (StepS.cmp rfl rfl rfl) ?_
    refine TO.s rfl rfl rfl (StepS.move rfl) ?_
    refine TO.mid1 5 26 (.bool ((decide (a1 < 0)) || (decide (a1 ≥ (a0.length : Int))))) ?_ ?_
    · refine bcase ((decide (a1 < 0))) (fun hb4 => ?_) (fun hb4 => ?_)
      · refine TO.skip rfl rfl rfl (skipT hb4) rfl rfl ?_
        refine TO.skip rfl rfl rfl (skipT hb4) rfl rfl ?_
        refine TO.skip rfl rfl rfl (skipT hb4) rfl rfl ?_
        refine TO.skip rfl rfl rfl (skipT hb4) rfl rfl ?_
        refine TO.s rfl rfl rfl (StepS.pickT rfl hb4 rfl) ?_
        exact TO.up1 5 0 rfl rfl (by rw [hb4]; rfl) rfl
      · refine TO.sw rfl rfl rfl hb4 rfl rfl (StepS.move rfl) ?_
        refine TO.sw rfl rfl rfl hb4 rfl rfl (StepS.move rfl) ?_
        refine TO.sw rfl rfl rfl hb4 rfl rfl (StepS.lenm rfl e0 ksliceB_34_35_1_true rfl) ?_
        refine TO.sw rfl rfl rfl hb4 rfl rfl (StepS.cmp rfl rfl rfl) ?_
        refine TO.s rfl rfl rfl (StepS.pickF rfl hb4 rfl) ?_
        exact TO.up1 5 0 rfl rfl (by rw [hb4]; rfl) rfl
    refine TO.code ?_
    refine TC.cond rfl (fun hc5 => ?_) (fun hc5 => ?_)
    · replace hm := cond_t hc5 hm
      refine TC.k ?_
      refine TC.region ?_
      refine TO.s rfl rfl rfl (StepS.assign rfl) ?_
      refine TO.s rfl rfl rfl (StepS.assign rfl) ?_
      refine TO.s rfl rfl rfl (StepS.assign rfl) ?_
      refine TO.code ?_
      cases hm
      refine TC.ret fun a w e s => ?_
      refine FRet.mk3 (P := Try.prog) (fn := Try.f27) (t := 4) (u := 5) (s := 6) e rfl rfl rfl rfl ?_
      exact ⟨rfl, s.mono fun _ => Sat.dropN 0⟩
    · replace hm := cond_f hc5 hm
      refine TC.skipk ?_
      refine TC.k ?_
      refine TC.region ?_
      refine TO.s rfl rfl rfl (StepS.assign rfl) ?_
      refine TO.code ?_
      refine TC.k ?_
      refine TC.region ?_
      refine TO.s rfl rfl rfl (StepS.assign rfl) ?_
      refine TO.code ?_
      refine TC.k ?_
      refine TC.region ?_
      refine TO.s rfl rfl rfl (StepS.move rfl) ?_
      obtain ⟨k6, hk7, hm⟩ := bind_some hm
      refine TO.s rfl rfl rfl (StepS.shlk (m := 1#32) rfl rfl hk7) ?_
      refine TO.s rfl rfl rfl (StepS.assign rfl) ?_
      refine TO.code ?_
      refine TC.k ?_
      refine TC.region ?_
      refine TO.s rfl rfl rfl (StepS.move rfl) ?_
      refine TO.litS (f := cI) ([a1] : List Int) kelemB_28_3_1_8_true kinfo_3_bind_zero_some_I_0 rfl rfl (fun _ => rfl) rfl rfl (by kernel_rfl) rfl fun v8 => ?_
      refine TO.s rfl rfl rfl (StepS.assign rfl) ?_
      refine TO.code ?_
      refine TC.k ?_
      obtain ⟨o24, hw25, hm⟩ := bind_some hm
      refine TC.loop hw25 (fun (y10, x12, b13, x14) => fun a w => ∃ v11 : Value, Mid 77 B [(0, h0), (1, I a1), (8, I x12), (9, .bool b13), (10, U x14), (11, v11)] (OwnS 3 1 v11 (y10.map cI) :: L) a w) (fun (y20, x22, b23) => fun a w => ∃ v21 : Value, Mid 77 B [(8, I x22), (9, .bool b23)] (OwnS 3 1 v21 (y20.map cI) :: L) a w) (fun (_ : Unit) _ _ => False) ?_ ?_ ?_ ?_
      · rintro ⟨y10, x12, b13, x14⟩ o24r hb26 a w ⟨v11, he, hs⟩
        dsimp only [F27_L0] at hb26
        refine TC.use ?_ he hs
        refine TC.k ?_
        refine TC.k ?_
        refine TC.region ?_
        refine TO.s rfl rfl rfl (StepS.move rfl) ?_
        refine TO.s rfl rfl rfl (StepS.lenm rfl (OwnS.rd (Ent.at 0 rfl)) ksliceB_28_3_1_true rfl) ?_
        refine TO.s rfl rfl rfl (StepS.cmp rfl rfl rfl) ?_
        refine TO.code ?_
        refine TC.cond rfl (fun hc27 => ?_) (fun hc27 => ?_)
        · replace hb26 := cond_t hc27 hb26
          refine TC.skipk ?_
          refine TC.k ?_
          refine TC.block ?_
          refine TC.k ?_
          refine TC.region ?_
          refine TO.s rfl rfl rfl (StepS.move rfl) ?_
          refine TO.s rfl rfl rfl (StepS.move rfl) ?_
          obtain ⟨x28, hx29, hb26⟩ := bind_some hb26
          refine TO.s rfl rfl rfl (StepS.idx rfl rfl (OwnS.rd (Ent.at 0 rfl)) ksliceB_28_3_1_true (idx_spec hx29).1 (idxm_lt hx29)) ?_
          refine TO.s rfl rfl rfl (StepS.ld0 rfl (OwnS.rd (Ent.at 0 rfl)) kscalB_3_true rfl (idxm hx29) rfl) ?_
          obtain ⟨x30, hx31, hb26⟩ := bind_some hb26
          refine TO.s rfl rfl rfl (StepS.idx rfl rfl e0.tl ksliceB_34_35_1_true (idx_spec hx31).1 (idxm_lt hx31)) ?_
          refine TO.s rfl rfl rfl (StepS.ld0 rfl e0.tl kscalB_35_true rfl (idxm hx31) rfl) ?_
          refine TO.s rfl rfl rfl (StepS.assign rfl) ?_
          refine TO.code ?_
          refine TC.k ?_
          refine TC.region ?_
          refine TO.s rfl rfl rfl (StepS.move rfl) ?_
          refine TO.s rfl rfl rfl (StepS.move rfl) ?_
          obtain ⟨r32, hc33, hb26⟩ := bind_some hb26
          refine TO.q rfl rfl rfl (StepQ.call kcallB_53_true rfl rfl (fun _ st => C53  hc33 st)) ?_
          refine TO.s rfl rfl rfl (StepS.ari rfl rfl rfl) ?_
          refine TO.s rfl rfl rfl (StepS.assign rfl) ?_
          refine TO.code ?_
          refine TC.k ?_
          refine TC.region ?_
          refine TO.s rfl rfl rfl (StepS.move rfl) ?_
          refine TO.s rfl rfl rfl (StepS.move rfl) ?_
          obtain ⟨b35, hj36, hb26⟩ := bind_some hb26
          refine TO.mid1 6 53 (.bool b35) ?_ ?_
          · refine bcase (b13) (fun hb34 => ?_) (fun hb34 => ?_)
            · replace hj36 := cond_t hb34 hj36
              cases hj36
              refine TO.skip rfl rfl rfl (skipT hb34) rfl rfl ?_
              refine TO.skip rfl rfl rfl (skipT hb34) rfl rfl ?_
              refine TO.skip rfl rfl rfl (skipT hb34) rfl rfl ?_
              refine TO.skip rfl rfl rfl (skipT hb34) rfl rfl ?_
              refine TO.skip rfl rfl rfl (skipT hb34) rfl rfl ?_
              refine TO.s rfl rfl rfl (StepS.pickT rfl hb34 rfl) ?_
              exact TO.up1 6 0 rfl rfl rfl rfl
            · replace hj36 := cond_f hb34 hj36
              refine TO.sw rfl rfl rfl hb34 rfl rfl (StepS.move rfl) ?_
              refine TO.sw rfl rfl rfl hb34 rfl rfl (StepS.move rfl) ?_
              obtain ⟨k37, hk38, hj36⟩ := bind_some hj36
              refine TO.sw rfl rfl rfl hb34 rfl rfl (StepS.shrk rfl rfl hk38) ?_
              refine TO.sw rfl rfl rfl hb34 rfl rfl (StepS.bitU (n := 1#32) rfl rfl rfl) ?_
              refine TO.sw rfl rfl rfl hb34 rfl rfl (StepS.cmpU (n := 1#32) rfl rfl rfl) ?_
              cases hj36
              refine TO.s rfl rfl rfl (StepS.pickF rfl hb34 rfl) ?_
              exact TO.up1 6 0 rfl rfl rfl rfl
          refine TO.s rfl rfl rfl (StepS.assign rfl) ?_
          refine TO.code ?_
          refine TC.k ?_
          refine TC.region ?_
          refine TO.s rfl rfl rfl (StepS.move rfl) ?_
          refine TO.s rfl rfl rfl (StepS.lenm rfl e0.tl ksliceB_34_35_1_true rfl) ?_
          refine TO.s rfl rfl rfl (StepS.move rfl) ?_
          refine TO.code ?_
          obtain ⟨o50, hw51, hb26⟩ := bind_some hb26
          refine TC.loop hw51 (fun (y39, x41, x42) => fun a w => ∃ v40 : Value, Mid 77 B [(0, h0), (1, I a1), (8, I (w64 (x12 + r32))), (9, .bool b35), (10, U x41), (11, v40), (12, U x30), (55, I (a0.length : Int)), (56, I x42)] (OwnS 3 1 v40 (y39.map cI) :: L) a w) (fun (y47, x49) => fun a w => ∃ v48 : Value, Mid 77 B [(0, h0), (1, I a1), (8, I (w64 (x12 + r32))), (9, .bool b35), (10, U x49), (11, v48)] (OwnS 3 1 v48 (y47.map cI) :: L) a w) (fun (_ : Unit) _ _ => False) ?_ ?_ ?_ ?_
          · rintro ⟨y39, x41, x42⟩ o50r hb52 a w ⟨v40, he, hs⟩
            dsimp only [F27_L1] at hb52
            refine TC.use ?_ he hs
            refine TC.k ?_
            refine TC.region ?_
            refine TO.s rfl rfl rfl (StepS.cmp rfl rfl rfl) ?_
            refine TO.code ?_
            refine TC.k ?_
            refine TC.cond rfl (fun hc53 => ?_) (fun hc53 => ?_)
            · replace hb52 := cond_t hc53 hb52
              refine TC.skipk ?_
              refine TC.k ?_
              obtain ⟨⟨y54, x56⟩, hj57, hb52⟩ := bind_some hb52
              first | refine TC.cutM (fun a w => ∃ v55 : Value, Mid 77 B [(0, h0), (1, I a1), (8, I (w64 (x12 + r32))), (9, .bool b35), (10, U x56), (11, v55), (12, U x30), (55, I (a0.length : Int)), (56, I x42)] (OwnS 3 1 v55 (y54.map cI) :: L) a w) ?_ ?_ | refine TC.cutX (fun a w => ∃ v55 : Value, Mid 77 B [(0, h0), (1, I a1), (8, I (w64 (x12 + r32))), (9, .bool b35), (10, U x56), (11, v55), (12, U x30), (55, I (a0.length : Int)), (56, I x42)] (OwnS 3 1 v55 (y54.map cI) :: L) a w) ?_ ?_
              · refine TC.block ?_
                refine TC.k ?_
                refine TC.region ?_
                refine TO.s rfl rfl rfl (StepS.move rfl) ?_
                refine TO.s rfl rfl rfl (StepS.assign rfl) ?_
                refine TO.code ?_
                refine TC.k ?_
                refine TC.region ?_
                refine TO.s rfl rfl rfl (StepS.move rfl) ?_
                refine TO.s rfl rfl rfl (StepS.move rfl) ?_
                refine TO.s rfl rfl rfl (StepS.bitU rfl rfl rfl) ?_
                refine TO.s rfl rfl rfl (StepS.move rfl) ?_
                obtain ⟨k58, hk59, hj57⟩ := bind_some hj57
                refine TO.s rfl rfl rfl (StepS.shrk rfl rfl hk59) ?_
                refine TO.s rfl rfl rfl (StepS.bitU (n := 1#32) rfl rfl rfl) ?_
                refine TO.s rfl rfl rfl (StepS.cmpU (n := 1#32) rfl rfl rfl) ?_
                refine TO.code ?_
                refine TC.cond rfl (fun hc60 => ?_) (fun hc60 => ?_)
                · replace hj57 := cond_t hc60 hj57
                  refine TC.k ?_
                  refine TC.region ?_
                  refine TO.s rfl rfl rfl (StepS.move rfl) ?_
                  refine TO.s rfl rfl rfl (StepS.move rfl) ?_
                  obtain ⟨k61, hk62, hj57⟩ := bind_some hj57
                  refine TO.s rfl rfl rfl (StepS.shlk (m := 1#32) rfl rfl hk62) ?_
                  refine TO.s rfl rfl rfl (StepS.bitU rfl rfl rfl) ?_
                  refine TO.s rfl rfl rfl (StepS.assign rfl) ?_
                  refine TO.code ?_
                  refine TC.region ?_
                  refine TO.s rfl rfl rfl (StepS.move rfl) ?_
                  refine TO.s rfl rfl rfl (StepS.move rfl) ?_
                  refine TO.litS (f := cI) ([x42] : List Int) kelemB_28_3_1_8_true kinfo_3_bind_zero_some_I_0 rfl rfl (fun _ => rfl) rfl rfl (by kernel_rfl) rfl fun v63 => ?_
                  obtain ⟨y65, hk66, hj57⟩ := bind_some hj57
                  refine TO.app (k := 1) (f := cI) kelemB_28_3_1_8_true (by decide) rfl rfl rfl (OwnS.rd (Ent.at 0 rfl)) hk66 (fun x c hc => by simp [Value.oneCell'] at hc ⊢; first | (obtain rfl := hc; rfl) | (rcases hc with rfl <;> rfl)) rfl rfl fun v67 => ?_
                  refine TO.s rfl rfl rfl (StepS.assign rfl) ?_
                  cases hj57
                  refine TO.nil fun a w e s => ?_
                  exact ⟨v67, e.sub (lk_of_allIn ⟨rfl, rfl, rfl, rfl, rfl, rfl, rfl, rfl, rfl, trivial⟩), s.mono fun _ => Sat.dropN 1⟩
                · replace hj57 := cond_f hc60 hj57
                  cases hj57
                  refine TC.skip fun a w e s => ?_
                  exact ⟨v40, e.sub (lk_of_allIn ⟨rfl, rfl, rfl, rfl, rfl, rfl, rfl, rfl, rfl, trivial⟩), s⟩
              · intro a w ⟨v55, he, hs⟩
                refine TC.use ?_ he hs
                refine TC.region ?_
                refine TO.s rfl rfl rfl (StepS.ari rfl rfl rfl) ?_
                refine TO.s rfl rfl rfl (StepS.move rfl) ?_
                cases hb52
                refine TO.nil fun a w e s => ?_
                exact ⟨v55, e.sub (lk_of_allIn ⟨rfl, rfl, rfl, rfl, rfl, rfl, rfl, rfl, rfl, trivial⟩), s⟩
            · replace hb52 := cond_f hc53 hb52
              cases hb52
              refine TC.exit rfl fun a w e s => ?_
              exact ⟨v40, e.sub (lk_of_allIn ⟨rfl, rfl, rfl, rfl, rfl, rfl, trivial⟩), s⟩
          · exact fun a w e s => ⟨v11, e.sub (lk_of_allIn ⟨rfl, rfl, rfl, rfl, rfl, rfl, rfl, rfl, rfl, trivial⟩), s⟩
          · rintro ⟨y47, x49⟩ rfl a w ⟨v48, he, hs⟩
            dsimp only [Ctl.on] at hb26
            refine TC.use ?_ he hs
            refine TC.region ?_
            refine TO.s rfl rfl rfl (StepS.move rfl) ?_
            obtain ⟨y68, hs69, hb26⟩ := bind_some hb26
            obtain ⟨hs69a, hs69b, hs69c, _⟩ := slI_spec hs69
            refine TO.s rfl rfl rfl (StepS.slc rfl (OwnS.rd (Ent.at 0 rfl)) ksliceB_28_3_1_true rfl (by simp [bnd]) hs69a hs69b (by simpa using hs69c)) ?_
            refine TO.ghost (fun _ s => Sat.cutF 0 rfl hs69 s) ?_
            refine TO.s rfl rfl rfl (StepS.assign rfl) ?_
            cases hb26
            refine TO.nil fun a w e s => ?_
            exact ⟨(subv v48 1 (y47.length : Int) 1), e.sub (lk_of_allIn ⟨rfl, rfl, rfl, rfl, rfl, rfl, trivial⟩), s⟩
          · rintro r rfl
            exact fun a w h => h.elim
        · replace hb26 := cond_f hc27 hb26
          cases hb26
          refine TC.exit rfl fun a w e s => ?_
          exact ⟨v11, e.sub (lk_of_allIn ⟨rfl, rfl, trivial⟩), s⟩
      · exact fun a w e s => ⟨v8, e.sub (lk_of_allIn ⟨rfl, rfl, rfl, rfl, rfl, rfl, trivial⟩), s⟩
      · rintro ⟨y20, x22, b23⟩ rfl a w ⟨v21, he, hs⟩
        dsimp only [Ctl.on] at hm
        refine TC.use ?_ he hs
        refine TC.k ?_
        refine TC.region ?_
        refine TO.s rfl rfl rfl (StepS.move rfl) ?_
        refine TO.s rfl rfl rfl (StepS.move rfl) ?_
        refine TO.s rfl rfl rfl (StepS.assign rfl) ?_
        refine TO.s rfl rfl rfl (StepS.assign rfl) ?_
        refine TO.s rfl rfl rfl (StepS.assign rfl) ?_
        refine TO.code ?_
        cases hm
        refine TC.ret fun a w e s => ?_
        refine FRet.mk3 (P := Try.prog) (fn := Try.f27) (t := 4) (u := 5) (s := 6) e rfl rfl rfl rfl ?_
        exact ⟨rfl, s.mono fun _ => Sat.dropN 1⟩
      · rintro r rfl
        exact fun a w h => h.elim

set_option maxRecDepth 100000 in
theorem C23 {B : World} {L : List HP} {a0 : List (BitVec 32)} {h0 : Value} {r0 : Int} (e0 : Ent L (Rd 1 h0 (a0.map cU))) (hm : F23 a0 = some r0) {w : World} (st : St B L w) : Calls Try.prog 23 #[h0] w (fun e w' => (e = .returned (I r0) ∧ St B (L) w')) := by
  refine calls_of (N := 26) (L := L) (args := [h0]) Try.func23 rfl rfl rfl ?_ st
  dsimp only [F23] at hm
  refine TC.k ?_
  refine TC.region ?_
  refine TO.s rfl rfl rfl (StepS.assign rfl) ?_
  refine TO.code ?_
  refine TC.k ?_
  refine TC.k ?_
  refine TC.region ?_
  refine TO.s rfl rfl rfl (StepS.move rfl) ?_
  refine TO.s rfl rfl rfl (StepS.lenm rfl e0 ksliceB_34_35_1_true rfl) ?_
  refine TO.s rfl rfl rfl (StepS.cmp rfl rfl rfl) ?_
  refine TO.s rfl rfl rfl (StepS.move rfl) ?_
  refine TO.mid1 4 12 (.bool ((decide ((a0.length : Int) < 1)) || (decide ((a0.length : Int) > 6)))) ?_ ?_
  · refine bcase ((decide ((a0.length : Int) < 1))) (fun hb1 => ?_) (fun hb1 => ?_)
    · refine TO.skip rfl rfl rfl (skipT hb1) rfl rfl ?_
      refine TO.skip rfl rfl rfl (skipT hb1) rfl rfl ?_
      refine TO.skip rfl rfl rfl (skipT hb1) rfl rfl ?_
      refine TO.s rfl rfl rfl (StepS.pickT rfl hb1 rfl) ?_
      exact TO.up1 4 0 rfl rfl (by rw [hb1]; rfl) rfl
    · refine TO.sw rfl rfl rfl hb1 rfl rfl (StepS.move rfl) ?_
      refine TO.sw rfl rfl rfl hb1 rfl rfl (StepS.lenm rfl e0 ksliceB_34_35_1_true rfl) ?_
      refine TO.sw rfl rfl rfl hb1 rfl rfl (StepS.cmp rfl rfl rfl) ?_
      refine TO.s rfl rfl rfl (StepS.pickF rfl hb1 rfl) ?_
      exact TO.up1 4 0 rfl rfl (by rw [hb1]; rfl) rfl
  refine TO.code ?_
  refine TC.cond rfl (fun hc2 => ?_) (fun hc2 => ?_)
  · replace hm := cond_t hc2 hm
    refine TC.k ?_
    refine TC.region ?_
    refine TO.s rfl rfl rfl (StepS.assign rfl) ?_
    refine TO.code ?_
    cases hm
    refine TC.ret fun a w e s => ?_
    refine FRet.mk1 (P := Try.prog) (fn := Try.f23) (t := 2) e rfl rfl ?_
    exact ⟨rfl, s.mono fun _ => Sat.dropN 0⟩
  · replace hm := cond_f hc2 hm
    refine TC.skipk ?_
    refine TC.k ?_
    refine TC.k ?_
    refine TC.region ?_
    refine TO.s rfl rfl rfl (StepS.move rfl) ?_
    refine TO.s rfl rfl rfl (StepS.lenm rfl e0 ksliceB_34_35_1_true rfl) ?_
    refine TO.s rfl rfl rfl (StepS.move rfl) ?_
    refine TO.code ?_
    obtain ⟨o5, hw6, hm⟩ := bind_some hm
    refine TC.loop hw6 (fun x3 => fun a w => Mid 26 B [(0, h0), (13, h0), (14, I (a0.length : Int)), (15, I x3)] (L) a w) (fun _ => fun a w => Mid 26 B [] (L) a w) (fun r0 => FRet Try.prog Try.f23 (fun e w' => (e = .returned (I r0) ∧ St B (L) w'))) ?_ ?_ ?_ ?_
    · rintro x3 o5r hb7 a w ⟨he, hs⟩
      dsimp only [F23_L0] at hb7
      refine TC.use ?_ he hs
      refine TC.k ?_
      refine TC.region ?_
      refine TO.s rfl rfl rfl (StepS.cmp rfl rfl rfl) ?_
      refine TO.code ?_
      refine TC.k ?_
      refine TC.cond rfl (fun hc8 => ?_) (fun hc8 => ?_)
      · replace hb7 := cond_t hc8 hb7
        refine TC.skipk ?_
        refine TC.k ?_
        refine TC.block ?_
        refine TC.k ?_
        refine TC.region ?_
        obtain ⟨x9, hx10, hb7⟩ := bind_some hb7
        refine TO.s rfl rfl rfl (StepS.idx rfl rfl e0 ksliceB_34_35_1_true (idx_spec hx10).1 (idxm_lt hx10)) ?_
        refine TO.s rfl rfl rfl (StepS.ld0 rfl e0 kscalB_35_true rfl (idxm hx10) rfl) ?_
        refine TO.s rfl rfl rfl (StepS.assign rfl) ?_
        refine TO.code ?_
        refine TC.k ?_
        refine TC.region ?_
        refine TO.s rfl rfl rfl (StepS.move rfl) ?_
        refine TO.s rfl rfl rfl (StepS.move rfl) ?_
        refine TO.s rfl rfl rfl (StepS.lenm rfl e0 ksliceB_34_35_1_true rfl) ?_
        refine TO.s rfl rfl rfl (StepS.cvIV kintB_3_i64_true kintB_44_u64_true rfl) ?_
        refine TO.s rfl rfl rfl (StepS.shl (m := 1#32) rfl rfl (u64_nonneg _)) ?_
        refine TO.s rfl rfl rfl (StepS.cmpU rfl rfl rfl) ?_
        refine TO.code ?_
        refine TC.cond rfl (fun hc11 => ?_) (fun hc11 => ?_)
        · replace hb7 := cond_t hc11 hb7
          refine TC.k ?_
          refine TC.region ?_
          refine TO.s rfl rfl rfl (StepS.assign rfl) ?_
          refine TO.code ?_
          cases hb7
          refine TC.ret fun a w e s => ?_
          refine FRet.mk1 (P := Try.prog) (fn := Try.f23) (t := 2) e rfl rfl ?_
          exact ⟨rfl, s.mono fun _ => Sat.dropN 0⟩
        · replace hb7 := cond_f hc11 hb7
          refine TC.skipk ?_
          refine TC.region ?_
          refine TO.s rfl rfl rfl (StepS.ari rfl rfl rfl) ?_
          refine TO.s rfl rfl rfl (StepS.move rfl) ?_
          cases hb7
          refine TO.nil fun a w e s => ?_
          exact ⟨e.sub (lk_of_allIn ⟨rfl, rfl, rfl, rfl, trivial⟩), s⟩
      · replace hb7 := cond_f hc8 hb7
        cases hb7
        refine TC.exit rfl fun a w e s => ?_
        exact ⟨e.sub (lk_of_allIn trivial), s⟩
    · exact fun a w e s => ⟨e.sub (lk_of_allIn ⟨rfl, rfl, rfl, rfl, trivial⟩), s⟩
    · rintro _ rfl a w ⟨he, hs⟩
      dsimp only [Ctl.on] at hm
      refine TC.use ?_ he hs
      refine TC.k ?_
      refine TC.region ?_
      refine TO.s rfl rfl rfl (StepS.assign rfl) ?_
      refine TO.code ?_
      cases hm
      refine TC.ret fun a w e s => ?_
      refine FRet.mk1 (P := Try.prog) (fn := Try.f23) (t := 2) e rfl rfl ?_
      exact ⟨rfl, s.mono fun _ => Sat.dropN 0⟩
    · rintro r rfl
      cases hm
      exact fun a w h => h

set_option maxRecDepth 100000 in
theorem C29 {B : World} {L : List HP} {a0 : BitVec 32} {a1 : Int} {r0 : Bool} (hm : F29 a0 a1 = some r0) {w : World} (st : St B L w) : Calls Try.prog 29 #[U a0, I a1] w (fun e w' => (e = .returned (.bool r0) ∧ St B (L) w')) := by
  refine calls_of (N := 19) (L := L) (args := [U a0, I a1]) Try.func29 rfl rfl rfl ?_ st
  dsimp only [F29] at hm
  refine TC.k ?_
  refine TC.region ?_
  refine TO.s rfl rfl rfl (StepS.assign rfl) ?_
  refine TO.code ?_
  refine TC.k ?_
  refine TC.region ?_
  refine TO.s rfl rfl rfl (StepS.move rfl) ?_
  refine TO.s rfl rfl rfl (StepS.cmp rfl rfl rfl) ?_
  refine TO.s rfl rfl rfl (StepS.move rfl) ?_
  refine TO.mid1 3 10 (.bool ((decide (a1 ≥ 0)) && (decide (a1 < 32)))) ?_ ?_
  · refine bcase ((decide (a1 ≥ 0))) (fun hb1 => ?_) (fun hb1 => ?_)
    · refine TO.sw rfl rfl rfl hb1 rfl rfl (StepS.move rfl) ?_
      refine TO.sw rfl rfl rfl hb1 rfl rfl (StepS.cmp rfl rfl rfl) ?_
      refine TO.s rfl rfl rfl (StepS.pickT rfl hb1 rfl) ?_
      exact TO.up1 3 0 rfl rfl (by rw [hb1]; rfl) rfl
    · refine TO.skip rfl rfl rfl (skipF hb1) rfl rfl ?_
      refine TO.skip rfl rfl rfl (skipF hb1) rfl rfl ?_
      refine TO.s rfl rfl rfl (StepS.pickF rfl hb1 rfl) ?_
      exact TO.up1 3 0 rfl rfl (by rw [hb1]; rfl) rfl
  refine TO.s rfl rfl rfl (StepS.move rfl) ?_
  refine TO.mid1 7 18 (.bool (((decide (a1 ≥ 0)) && (decide (a1 < 32))) && ((a0 &&& ((1#32) <<< (u64 a1).toNat)) != (0#32)))) ?_ ?_
  · refine bcase (((decide (a1 ≥ 0)) && (decide (a1 < 32)))) (fun hb2 => ?_) (fun hb2 => ?_)
    · refine TO.sw rfl rfl rfl hb2 rfl rfl (StepS.move rfl) ?_
      refine TO.sw rfl rfl rfl hb2 rfl rfl (StepS.move rfl) ?_
      refine TO.sw rfl rfl rfl hb2 rfl rfl (StepS.cvIV kintB_3_i64_true kintB_44_u64_true rfl) ?_
      refine TO.sw rfl rfl rfl hb2 rfl rfl (StepS.shl (m := 1#32) rfl rfl (u64_nonneg _)) ?_
      refine TO.sw rfl rfl rfl hb2 rfl rfl (StepS.bitU rfl rfl rfl) ?_
      refine TO.sw rfl rfl rfl hb2 rfl rfl (StepS.cmpU (n := 0#32) rfl rfl rfl) ?_
      refine TO.s rfl rfl rfl (StepS.pickT rfl hb2 rfl) ?_
      exact TO.up1 7 0 rfl rfl (by rw [hb2]; rfl) rfl
    · refine TO.skip rfl rfl rfl (skipF hb2) rfl rfl ?_
      refine TO.skip rfl rfl rfl (skipF hb2) rfl rfl ?_
      refine TO.skip rfl rfl rfl (skipF hb2) rfl rfl ?_
      refine TO.skip rfl rfl rfl (skipF hb2) rfl rfl ?_
      refine TO.skip rfl rfl rfl (skipF hb2) rfl rfl ?_
      refine TO.skip rfl rfl rfl (skipF hb2) rfl rfl ?_
      refine TO.s rfl rfl rfl (StepS.pickF rfl hb2 rfl) ?_
      exact TO.up1 7 0 rfl rfl (by rw [hb2]; rfl) rfl
  refine TO.s rfl rfl rfl (StepS.assign rfl) ?_
  refine TO.code ?_
  cases hm
  refine TC.ret fun a w e s => ?_
  refine FRet.mk1 (P := Try.prog) (fn := Try.f29) (t := 4) e rfl rfl ?_
  exact ⟨rfl, s.mono fun _ => Sat.dropN 0⟩

set_option maxRecDepth 100000 in
theorem C28 {B : World} {L : List HP} {a0 : List (BitVec 32)} {a1 : Int} {h0 : Value} {r0 : BitVec 32} (e0 : Ent L (Rd 1 h0 (a0.map cU))) (hm : F28 a0 a1 = some r0) {w : World} (st : St B L w) : Calls Try.prog 28 #[h0, I a1] w (fun e w' => (e = .returned (U r0) ∧ St B (L) w')) := by
  refine calls_of (N := 34) (L := L) (args := [h0, I a1]) Try.func28 rfl rfl rfl ?_ st
  dsimp only [F28] at hm
  refine TC.k ?_
  refine TC.region ?_
  refine TO.s rfl rfl rfl (StepS.assign rfl) ?_
  refine TO.code ?_
  refine TC.k ?_
  refine TC.region ?_
  refine TO.s rfl rfl rfl (StepS.move rfl) ?_
  refine TO.s rfl rfl rfl (StepS.move rfl) ?_
  obtain ⟨x1, hx2, hm⟩ := bind_some hm
  refine TO.s rfl rfl rfl (StepS.idx rfl rfl e0 ksliceB_34_35_1_true (idx_spec hx2).1 (idxm_lt hx2)) ?_
  refine TO.s rfl rfl rfl (StepS.ld0 rfl e0 kscalB_35_true rfl (idxm hx2) rfl) ?_
  refine TO.s rfl rfl rfl (StepS.assign rfl) ?_
  refine TO.code ?_
  refine TC.k ?_
  refine TC.k ?_
  refine TC.region ?_
  refine TO.s rfl rfl rfl (StepS.assign rfl) ?_
  refine TO.code ?_
  obtain ⟨o8, hw9, hm⟩ := bind_some hm
  refine TC.loop hw9 (fun (x3, x4) => fun a w => Mid 34 B [(0, h0), (5, U x3), (6, I x4)] (L) a w) (fun x7 => fun a w => Mid 34 B [(5, U x7)] (L) a w) (fun (_ : Unit) _ _ => False) ?_ ?_ ?_ ?_
  · rintro ⟨x3, x4⟩ o8r hb10 a w ⟨he, hs⟩
    dsimp only [F28_L0] at hb10
    refine TC.use ?_ he hs
    refine TC.k ?_
    refine TC.k ?_
    refine TC.region ?_
    refine TO.s rfl rfl rfl (StepS.move rfl) ?_
    refine TO.s rfl rfl rfl (StepS.move rfl) ?_
    refine TO.s rfl rfl rfl (StepS.lenm rfl e0 ksliceB_34_35_1_true rfl) ?_
    refine TO.s rfl rfl rfl (StepS.cmp rfl rfl rfl) ?_
    refine TO.code ?_
    refine TC.cond rfl (fun hc11 => ?_) (fun hc11 => ?_)
    · replace hb10 := cond_t hc11 hb10
      refine TC.skipk ?_
      refine TC.k ?_
      refine TC.block ?_
      refine TC.k ?_
      refine TC.region ?_
      refine TO.s rfl rfl rfl (StepS.assign rfl) ?_
      refine TO.code ?_
      obtain ⟨o17, hw18, hb10⟩ := bind_some hb10
      refine TC.loop hw18 (fun (x12, x13) => fun a w => Mid 34 B [(0, h0), (5, U x12), (6, I x4), (7, I x13)] (L) a w) (fun x16 => fun a w => Mid 34 B [(0, h0), (5, U x16), (6, I x4)] (L) a w) (fun (_ : Unit) _ _ => False) ?_ ?_ ?_ ?_
      · rintro ⟨x12, x13⟩ o17r hb19 a w ⟨he, hs⟩
        dsimp only [F28_L1] at hb19
        refine TC.use ?_ he hs
        refine TC.k ?_
        refine TC.k ?_
        refine TC.region ?_
        refine TO.s rfl rfl rfl (StepS.move rfl) ?_
        refine TO.s rfl rfl rfl (StepS.move rfl) ?_
        refine TO.s rfl rfl rfl (StepS.lenm rfl e0 ksliceB_34_35_1_true rfl) ?_
        refine TO.s rfl rfl rfl (StepS.cmp rfl rfl rfl) ?_
        refine TO.code ?_
        refine TC.cond rfl (fun hc20 => ?_) (fun hc20 => ?_)
        · replace hb19 := cond_t hc20 hb19
          refine TC.skipk ?_
          refine TC.k ?_
          obtain ⟨x21, hj22, hb19⟩ := bind_some hb19
          first | refine TC.cutM (fun a w => Mid 34 B [(0, h0), (5, U x21), (6, I x4), (7, I x13)] (L) a w) ?_ ?_ | refine TC.cutX (fun a w => Mid 34 B [(0, h0), (5, U x21), (6, I x4), (7, I x13)] (L) a w) ?_ ?_
          · refine TC.block ?_
            refine TC.k ?_
            refine TC.region ?_
            refine TO.s rfl rfl rfl (StepS.move rfl) ?_
            refine TO.s rfl rfl rfl (StepS.move rfl) ?_
            obtain ⟨r23, hc24, hj22⟩ := bind_some hj22
            refine TO.q rfl rfl rfl (StepQ.call kcallB_29_true rfl rfl (fun _ st => C29  hc24 st)) ?_
            refine TO.code ?_
            refine TC.cond rfl (fun hc25 => ?_) (fun hc25 => ?_)
            · replace hj22 := cond_t hc25 hj22
              refine TC.region ?_
              refine TO.s rfl rfl rfl (StepS.move rfl) ?_
              refine TO.s rfl rfl rfl (StepS.move rfl) ?_
              refine TO.s rfl rfl rfl (StepS.move rfl) ?_
              obtain ⟨x26, hx27, hj22⟩ := bind_some hj22
              refine TO.s rfl rfl rfl (StepS.idx rfl rfl e0 ksliceB_34_35_1_true (idx_spec hx27).1 (idxm_lt hx27)) ?_
              refine TO.s rfl rfl rfl (StepS.ld0 rfl e0 kscalB_35_true rfl (idxm hx27) rfl) ?_
              refine TO.s rfl rfl rfl (StepS.bitU rfl rfl rfl) ?_
              refine TO.s rfl rfl rfl (StepS.assign rfl) ?_
              cases hj22
              refine TO.nil fun a w e s => ?_
              exact ⟨e.sub (lk_of_allIn ⟨rfl, rfl, rfl, rfl, trivial⟩), s⟩
            · replace hj22 := cond_f hc25 hj22
              cases hj22
              refine TC.skip fun a w e s => ?_
              exact ⟨e.sub (lk_of_allIn ⟨rfl, rfl, rfl, rfl, trivial⟩), s⟩
          · intro a w ⟨he, hs⟩
            refine TC.use ?_ he hs
            refine TC.region ?_
            refine TO.s rfl rfl rfl (StepS.move rfl) ?_
            refine TO.s rfl rfl rfl (StepS.ari rfl rfl rfl) ?_
            refine TO.s rfl rfl rfl (StepS.assign rfl) ?_
            cases hb19
            refine TO.nil fun a w e s => ?_
            exact ⟨e.sub (lk_of_allIn ⟨rfl, rfl, rfl, rfl, trivial⟩), s⟩
        · replace hb19 := cond_f hc20 hb19
          cases hb19
          refine TC.exit rfl fun a w e s => ?_
          exact ⟨e.sub (lk_of_allIn ⟨rfl, rfl, rfl, trivial⟩), s⟩
      · exact fun a w e s => ⟨e.sub (lk_of_allIn ⟨rfl, rfl, rfl, rfl, trivial⟩), s⟩
      · rintro x16 rfl a w ⟨he, hs⟩
        dsimp only [Ctl.on] at hb10
        refine TC.use ?_ he hs
        refine TC.region ?_
        refine TO.s rfl rfl rfl (StepS.move rfl) ?_
        refine TO.s rfl rfl rfl (StepS.ari rfl rfl rfl) ?_
        refine TO.s rfl rfl rfl (StepS.assign rfl) ?_
        cases hb10
        refine TO.nil fun a w e s => ?_
        exact ⟨e.sub (lk_of_allIn ⟨rfl, rfl, rfl, trivial⟩), s⟩
      · rintro r rfl
        exact fun a w h => h.elim
    · replace hb10 := cond_f hc11 hb10
      cases hb10
      refine TC.exit rfl fun a w e s => ?_
      exact ⟨e.sub (lk_of_allIn ⟨rfl, trivial⟩), s⟩
  · exact fun a w e s => ⟨e.sub (lk_of_allIn ⟨rfl, rfl, rfl, trivial⟩), s⟩
  · rintro x7 rfl a w ⟨he, hs⟩
    dsimp only [Ctl.on] at hm
    refine TC.use ?_ he hs
    refine TC.k ?_
    refine TC.region ?_
    refine TO.s rfl rfl rfl (StepS.move rfl) ?_
    refine TO.s rfl rfl rfl (StepS.assign rfl) ?_
    refine TO.code ?_
    cases hm
    refine TC.ret fun a w e s => ?_
    refine FRet.mk1 (P := Try.prog) (fn := Try.f28) (t := 4) e rfl rfl ?_
    exact ⟨rfl, s.mono fun _ => Sat.dropN 0⟩
  · rintro r rfl
    exact fun a w h => h.elim

set_option maxRecDepth 100000 in
theorem C30 {B : World} {L : List HP} {a0 : BitVec 32} {r0 : Int} (hm : F30 a0 = some r0) {w : World} (st : St B L w) : Calls Try.prog 30 #[U a0] w (fun e w' => (e = .returned (I r0) ∧ St B (L) w')) := by
  refine calls_of (N := 15) (L := L) (args := [U a0]) Try.func30 rfl rfl rfl ?_ st
  dsimp only [F30] at hm
  refine TC.k ?_
  refine TC.region ?_
  refine TO.s rfl rfl rfl (StepS.assign rfl) ?_
  refine TO.code ?_
  refine TC.k ?_
  refine TC.region ?_
  refine TO.s rfl rfl rfl (StepS.assign rfl) ?_
  refine TO.code ?_
  refine TC.k ?_
  refine TC.k ?_
  refine TC.region ?_
  refine TO.s rfl rfl rfl (StepS.assign rfl) ?_
  refine TO.code ?_
  obtain ⟨o6, hw7, hm⟩ := bind_some hm
  refine TC.loop hw7 (fun (x1, x2) => fun a w => Mid 15 B [(0, U a0), (3, I x1), (4, I x2)] (L) a w) (fun x5 => fun a w => Mid 15 B [(3, I x5)] (L) a w) (fun (_ : Unit) _ _ => False) ?_ ?_ ?_ ?_
  · rintro ⟨x1, x2⟩ o6r hb8 a w ⟨he, hs⟩
    dsimp only [F30_L0] at hb8
    refine TC.use ?_ he hs
    refine TC.k ?_
    refine TC.k ?_
    refine TC.region ?_
    refine TO.s rfl rfl rfl (StepS.move rfl) ?_
    refine TO.s rfl rfl rfl (StepS.cmp rfl rfl rfl) ?_
    refine TO.code ?_
    refine TC.cond rfl (fun hc9 => ?_) (fun hc9 => ?_)
    · replace hb8 := cond_t hc9 hb8
      refine TC.skipk ?_
      refine TC.k ?_
      obtain ⟨x10, hj11, hb8⟩ := bind_some hb8
      first | refine TC.cutM (fun a w => Mid 15 B [(0, U a0), (3, I x10), (4, I x2)] (L) a w) ?_ ?_ | refine TC.cutX (fun a w => Mid 15 B [(0, U a0), (3, I x10), (4, I x2)] (L) a w) ?_ ?_
      · refine TC.block ?_
        refine TC.k ?_
        refine TC.region ?_
        refine TO.s rfl rfl rfl (StepS.move rfl) ?_
        refine TO.s rfl rfl rfl (StepS.move rfl) ?_
        obtain ⟨r12, hc13, hj11⟩ := bind_some hj11
        refine TO.q rfl rfl rfl (StepQ.call kcallB_29_true rfl rfl (fun _ st => C29  hc13 st)) ?_
        refine TO.code ?_
        refine TC.cond rfl (fun hc14 => ?_) (fun hc14 => ?_)
        · replace hj11 := cond_t hc14 hj11
          refine TC.region ?_
          refine TO.s rfl rfl rfl (StepS.move rfl) ?_
          refine TO.s rfl rfl rfl (StepS.ari rfl rfl rfl) ?_
          refine TO.s rfl rfl rfl (StepS.assign rfl) ?_
          cases hj11
          refine TO.nil fun a w e s => ?_
          exact ⟨e.sub (lk_of_allIn ⟨rfl, rfl, rfl, trivial⟩), s⟩
        · replace hj11 := cond_f hc14 hj11
          cases hj11
          refine TC.skip fun a w e s => ?_
          exact ⟨e.sub (lk_of_allIn ⟨rfl, rfl, rfl, trivial⟩), s⟩
      · intro a w ⟨he, hs⟩
        refine TC.use ?_ he hs
        refine TC.region ?_
        refine TO.s rfl rfl rfl (StepS.move rfl) ?_
        refine TO.s rfl rfl rfl (StepS.ari rfl rfl rfl) ?_
        refine TO.s rfl rfl rfl (StepS.assign rfl) ?_
        cases hb8
        refine TO.nil fun a w e s => ?_
        exact ⟨e.sub (lk_of_allIn ⟨rfl, rfl, rfl, trivial⟩), s⟩
    · replace hb8 := cond_f hc9 hb8
      cases hb8
      refine TC.exit rfl fun a w e s => ?_
      exact ⟨e.sub (lk_of_allIn ⟨rfl, trivial⟩), s⟩
  · exact fun a w e s => ⟨e.sub (lk_of_allIn ⟨rfl, rfl, rfl, trivial⟩), s⟩
  · rintro x5 rfl a w ⟨he, hs⟩
    dsimp only [Ctl.on] at hm
    refine TC.use ?_ he hs
    refine TC.k ?_
    refine TC.region ?_
    refine TO.s rfl rfl rfl (StepS.move rfl) ?_
    refine TO.s rfl rfl rfl (StepS.assign rfl) ?_
    refine TO.code ?_
    cases hm
    refine TC.ret fun a w e s => ?_
    refine FRet.mk1 (P := Try.prog) (fn := Try.f30) (t := 2) e rfl rfl ?_
    exact ⟨rfl, s.mono fun _ => Sat.dropN 0⟩
  · rintro r rfl
    exact fun a w h => h.elim

set_option maxRecDepth 100000 in
theorem C9 {B : World} {L : List HP} {a0 : List (BitVec 32)} {a1 : Int} {h0 : Value} {r0 : Bool} (e0 : Ent L (Rd 1 h0 (a0.map cU))) (hm : F9 a0 a1 = some r0) {w : World} (st : St B L w) : Calls Try.prog 9 #[h0, I a1] w (fun e w' => (e = .returned (.bool r0) ∧ St B (L) w')) := by
  refine calls_of (N := 85) (L := L) (args := [h0, I a1]) Try.func9 rfl rfl rfl ?_ st
  dsimp only [F9] at hm
  refine TC.k ?_
  refine TC.region ?_
  refine TO.s rfl rfl rfl (StepS.assign rfl) ?_
  refine TO.code ?_
  refine TC.k ?_
  refine TC.region ?_
  refine TO.s rfl rfl rfl (StepS.move rfl) ?_
  refine TO.s rfl rfl rfl (StepS.move rfl) ?_
  obtain ⟨⟨r1, r2, r3⟩, hc4, hm⟩ := bind_some hm
  refine TO.q rfl rfl rfl (StepQ.call kcallB_27_true rfl rfl (fun _ st => C27 e0 hc4 st)) ?_
  refine TO.s rfl rfl rfl (StepS.move rfl) ?_
  refine TO.s rfl rfl rfl (StepS.extract rfl rfl) ?_
  refine TO.s rfl rfl rfl (StepS.extract rfl rfl) ?_
  refine TO.s rfl rfl rfl (StepS.extract rfl rfl) ?_
  refine TO.s rfl rfl rfl (StepS.assign rfl) ?_
  refine TO.s rfl rfl rfl (StepS.assign rfl) ?_
  refine TO.s rfl rfl rfl (StepS.assign rfl) ?_
  refine TO.code ?_
  refine TC.k ?_
  refine TC.region ?_
  refine TO.s rfl rfl rfl (StepS.move rfl) ?_
  obtain ⟨r5, hc6, hm⟩ := bind_some hm
  refine TO.q rfl rfl rfl (StepQ.call kcallB_23_true rfl rfl (fun _ st => C23 e0 hc6 st)) ?_
  refine TO.s rfl rfl rfl (StepS.assign rfl) ?_
  refine TO.code ?_
  refine TC.k ?_
  refine TC.k ?_
  refine TC.region ?_
  refine TO.s rfl rfl rfl (StepS.move rfl) ?_
  refine TO.s rfl rfl rfl (StepS.cmp rfl rfl rfl) ?_
  refine TO.s rfl rfl rfl (StepS.move rfl) ?_
  refine TO.mid1 9 32 (.bool ((r5 == 0) && ((decide (a1 < 0)) || (decide (a1 ≥ (a0.length : Int)))))) ?_ ?_
  · refine bcase ((r5 == 0)) (fun hb7 => ?_) (fun hb7 => ?_)
    · refine TO.sw rfl rfl rfl hb7 rfl rfl (StepS.move rfl) ?_
      refine TO.sw rfl rfl rfl hb7 rfl rfl (StepS.cmp rfl rfl rfl) ?_
      refine TO.sw rfl rfl rfl hb7 rfl rfl (StepS.move rfl) ?_
      refine TO.mid1 5 31 (.bool ((decide (a1 < 0)) || (decide (a1 ≥ (a0.length : Int))))) ?_ ?_
      · refine bcase ((decide (a1 < 0))) (fun hb8 => ?_) (fun hb8 => ?_)
        · refine TO.skip rfl rfl rfl (skipT hb8) rfl rfl ?_
          refine TO.skip rfl rfl rfl (skipT hb8) rfl rfl ?_
          refine TO.skip rfl rfl rfl (skipT hb8) rfl rfl ?_
          refine TO.skip rfl rfl rfl (skipT hb8) rfl rfl ?_
          refine TO.sw rfl rfl rfl hb7 rfl rfl (StepS.pickT rfl hb8 rfl) ?_
          exact TO.up1 5 0 rfl rfl (by rw [hb8]; rfl) rfl
        · refine TO.sw rfl rfl rfl hb8 rfl rfl (StepS.move rfl) ?_
          refine TO.sw rfl rfl rfl hb8 rfl rfl (StepS.move rfl) ?_
          refine TO.sw rfl rfl rfl hb8 rfl rfl (StepS.lenm rfl e0 ksliceB_34_35_1_true rfl) ?_
          refine TO.sw rfl rfl rfl hb8 rfl rfl (StepS.cmp rfl rfl rfl) ?_
          refine TO.sw rfl rfl rfl hb7 rfl rfl (StepS.pickF rfl hb8 rfl) ?_
          exact TO.up1 5 0 rfl rfl (by rw [hb8]; rfl) rfl
      refine TO.s rfl rfl rfl (StepS.pickT rfl hb7 rfl) ?_
      exact TO.up1 5 0 rfl rfl (by rw [hb7]; rfl) rfl
    · refine TO.skip rfl rfl rfl (skipF hb7) rfl rfl ?_
      refine TO.skip rfl rfl rfl (skipF hb7) rfl rfl ?_
      refine TO.skip rfl rfl rfl (skipF hb7) rfl rfl ?_
      refine TO.skip rfl rfl rfl skipU rfl rfl ?_
      refine TO.skip rfl rfl rfl skipU rfl rfl ?_
      refine TO.skip rfl rfl rfl skipU rfl rfl ?_
      refine TO.skip rfl rfl rfl skipU rfl rfl ?_
      refine TO.skip rfl rfl rfl (skipF hb7) rfl rfl ?_
      refine TO.s rfl rfl rfl (StepS.pickF rfl hb7 rfl) ?_
      exact TO.up1 9 0 rfl rfl (by rw [hb7]; rfl) rfl
  refine TO.code ?_
  obtain ⟨x9, hj10, hm⟩ := bind_some hm
  first | refine TC.cutM (fun a w => Mid 85 B [(0, h0), (1, I a1), (5, .bool r1), (6, I r2), (7, I r3), (8, I x9)] (L) a w) ?_ ?_ | refine TC.cutX (fun a w => Mid 85 B [(0, h0), (1, I a1), (5, .bool r1), (6, I r2), (7, I r3), (8, I x9)] (L) a w) ?_ ?_
  · refine TC.cond rfl (fun hc11 => ?_) (fun hc11 => ?_)
    · replace hj10 := cond_t hc11 hj10
      refine TC.region ?_
      refine TO.s rfl rfl rfl (StepS.assign rfl) ?_
      cases hj10
      refine TO.nil fun a w e s => ?_
      exact ⟨e.sub (lk_of_allIn ⟨rfl, rfl, rfl, rfl, rfl, rfl, trivial⟩), s⟩
    · replace hj10 := cond_f hc11 hj10
      cases hj10
      refine TC.skip fun a w e s => ?_
      exact ⟨e.sub (lk_of_allIn ⟨rfl, rfl, rfl, rfl, rfl, rfl, trivial⟩), s⟩
  · intro a w ⟨he, hs⟩
    refine TC.use ?_ he hs
    refine TC.k ?_
    refine TC.k ?_
    refine TC.region ?_
    refine TO.s rfl rfl rfl (StepS.move rfl) ?_
    refine TO.s rfl rfl rfl (StepS.cmp rfl rfl rfl) ?_
    refine TO.code ?_
    refine TC.cond rfl (fun hc12 => ?_) (fun hc12 => ?_)
    · replace hm := cond_t hc12 hm
      refine TC.k ?_
      refine TC.region ?_
      refine TO.s rfl rfl rfl (StepS.move rfl) ?_
      refine TO.s rfl rfl rfl (StepS.move rfl) ?_
      refine TO.s rfl rfl rfl (StepS.cmp rfl rfl rfl) ?_
      refine TO.s rfl rfl rfl (StepS.move rfl) ?_
      refine TO.mid1 3 41 (.bool ((r3 == x9) && (!r1))) ?_ ?_
      · refine bcase ((r3 == x9)) (fun hb13 => ?_) (fun hb13 => ?_)
        · refine TO.sw rfl rfl rfl hb13 rfl rfl (StepS.move rfl) ?_
          refine TO.sw rfl rfl rfl hb13 rfl rfl (StepS.not rfl) ?_
          refine TO.s rfl rfl rfl (StepS.pickT rfl hb13 rfl) ?_
          exact TO.up1 3 0 rfl rfl (by rw [hb13]; rfl) rfl
        · refine TO.skip rfl rfl rfl (skipF hb13) rfl rfl ?_
          refine TO.skip rfl rfl rfl (skipF hb13) rfl rfl ?_
          refine TO.s rfl rfl rfl (StepS.pickF rfl hb13 rfl) ?_
          exact TO.up1 3 0 rfl rfl (by rw [hb13]; rfl) rfl
      refine TO.s rfl rfl rfl (StepS.move rfl) ?_
      refine TO.mid1 3 45 (.bool (((r3 == x9) && (!r1)) && (r2 == 0))) ?_ ?_
      · refine bcase (((r3 == x9) && (!r1))) (fun hb14 => ?_) (fun hb14 => ?_)
        · refine TO.sw rfl rfl rfl hb14 rfl rfl (StepS.move rfl) ?_
          refine TO.sw rfl rfl rfl hb14 rfl rfl (StepS.cmp rfl rfl rfl) ?_
          refine TO.s rfl rfl rfl (StepS.pickT rfl hb14 rfl) ?_
          exact TO.up1 3 0 rfl rfl (by rw [hb14]; rfl) rfl
        · refine TO.skip rfl rfl rfl (skipF hb14) rfl rfl ?_
          refine TO.skip rfl rfl rfl (skipF hb14) rfl rfl ?_
          refine TO.s rfl rfl rfl (StepS.pickF rfl hb14 rfl) ?_
          exact TO.up1 3 0 rfl rfl (by rw [hb14]; rfl) rfl
      refine TO.s rfl rfl rfl (StepS.assign rfl) ?_
      refine TO.code ?_
      cases hm
      refine TC.ret fun a w e s => ?_
      refine FRet.mk1 (P := Try.prog) (fn := Try.f9) (t := 4) e rfl rfl ?_
      exact ⟨rfl, s.mono fun _ => Sat.dropN 0⟩
    · replace hm := cond_f hc12 hm
      refine TC.skipk ?_
      refine TC.k ?_
      refine TC.region ?_
      refine TO.s rfl rfl rfl (StepS.move rfl) ?_
      refine TO.s rfl rfl rfl (StepS.move rfl) ?_
      obtain ⟨r15, hc16, hm⟩ := bind_some hm
      refine TO.q rfl rfl rfl (StepQ.call kcallB_28_true rfl rfl (fun _ st => C28 e0 hc16 st)) ?_
      refine TO.s rfl rfl rfl (StepS.move rfl) ?_
      refine TO.s rfl rfl rfl (StepS.cvIV kintB_3_i64_true kintB_44_u64_true rfl) ?_
      refine TO.s rfl rfl rfl (StepS.shl (m := 1#32) rfl rfl (u64_nonneg _)) ?_
      refine TO.s rfl rfl rfl (StepS.bitU rfl rfl rfl) ?_
      refine TO.s rfl rfl rfl (StepS.assign rfl) ?_
      refine TO.code ?_
      refine TC.k ?_
      refine TC.region ?_
      refine TO.s rfl rfl rfl (StepS.assign rfl) ?_
      refine TO.code ?_
      refine TC.k ?_
      refine TC.k ?_
      refine TC.region ?_
      refine TO.s rfl rfl rfl (StepS.assign rfl) ?_
      refine TO.code ?_
      obtain ⟨o22, hw23, hm⟩ := bind_some hm
      refine TC.loop hw23 (fun (x17, x18) => fun a w => Mid 85 B [(0, h0), (1, I a1), (5, .bool r1), (6, I r2), (7, I r3), (9, U (r15 ||| ((1#32) <<< (u64 a1).toNat))), (10, I x17), (11, I x18)] (L) a w) (fun x21 => fun a w => Mid 85 B [(0, h0), (1, I a1), (5, .bool r1), (6, I r2), (7, I r3), (10, I x21)] (L) a w) (fun (_ : Unit) _ _ => False) ?_ ?_ ?_ ?_
      · rintro ⟨x17, x18⟩ o22r hb24 a w ⟨he, hs⟩
        dsimp only [F9_L0] at hb24
        refine TC.use ?_ he hs
        refine TC.k ?_
        refine TC.k ?_
        refine TC.region ?_
        refine TO.s rfl rfl rfl (StepS.move rfl) ?_
        refine TO.s rfl rfl rfl (StepS.move rfl) ?_
        refine TO.s rfl rfl rfl (StepS.lenm rfl e0 ksliceB_34_35_1_true rfl) ?_
        refine TO.s rfl rfl rfl (StepS.cmp rfl rfl rfl) ?_
        refine TO.code ?_
        refine TC.cond rfl (fun hc25 => ?_) (fun hc25 => ?_)
        · replace hb24 := cond_t hc25 hb24
          refine TC.skipk ?_
          refine TC.k ?_
          obtain ⟨x26, hj27, hb24⟩ := bind_some hb24
          first | refine TC.cutM (fun a w => Mid 85 B [(0, h0), (1, I a1), (5, .bool r1), (6, I r2), (7, I r3), (9, U (r15 ||| ((1#32) <<< (u64 a1).toNat))), (10, I x26), (11, I x18)] (L) a w) ?_ ?_ | refine TC.cutX (fun a w => Mid 85 B [(0, h0), (1, I a1), (5, .bool r1), (6, I r2), (7, I r3), (9, U (r15 ||| ((1#32) <<< (u64 a1).toNat))), (10, I x26), (11, I x18)] (L) a w) ?_ ?_
          · refine TC.block ?_
            refine TC.k ?_
            refine TC.region ?_
            refine TO.s rfl rfl rfl (StepS.move rfl) ?_
            refine TO.s rfl rfl rfl (StepS.move rfl) ?_
            obtain ⟨r28, hc29, hj27⟩ := bind_some hj27
            refine TO.q rfl rfl rfl (StepQ.call kcallB_29_true rfl rfl (fun _ st => C29  hc29 st)) ?_
            refine TO.code ?_
            refine TC.cond rfl (fun hc30 => ?_) (fun hc30 => ?_)
            · replace hj27 := cond_t hc30 hj27
              refine TC.region ?_
              refine TO.s rfl rfl rfl (StepS.move rfl) ?_
              refine TO.s rfl rfl rfl (StepS.move rfl) ?_
              refine TO.s rfl rfl rfl (StepS.move rfl) ?_
              obtain ⟨x31, hx32, hj27⟩ := bind_some hj27
              refine TO.s rfl rfl rfl (StepS.idx rfl rfl e0 ksliceB_34_35_1_true (idx_spec hx32).1 (idxm_lt hx32)) ?_
              refine TO.s rfl rfl rfl (StepS.ld0 rfl e0 kscalB_35_true rfl (idxm hx32) rfl) ?_
              obtain ⟨r33, hc34, hj27⟩ := bind_some hj27
              refine TO.q rfl rfl rfl (StepQ.call kcallB_30_true rfl rfl (fun _ st => C30  hc34 st)) ?_
              refine TO.s rfl rfl rfl (StepS.ari rfl rfl rfl) ?_
              refine TO.s rfl rfl rfl (StepS.assign rfl) ?_
              cases hj27
              refine TO.nil fun a w e s => ?_
              exact ⟨e.sub (lk_of_allIn ⟨rfl, rfl, rfl, rfl, rfl, rfl, rfl, rfl, trivial⟩), s⟩
            · replace hj27 := cond_f hc30 hj27
              cases hj27
              refine TC.skip fun a w e s => ?_
              exact ⟨e.sub (lk_of_allIn ⟨rfl, rfl, rfl, rfl, rfl, rfl, rfl, rfl, trivial⟩), s⟩
          · intro a w ⟨he, hs⟩
            refine TC.use ?_ he hs
            refine TC.region ?_
            refine TO.s rfl rfl rfl (StepS.move rfl) ?_
            refine TO.s rfl rfl rfl (StepS.ari rfl rfl rfl) ?_
            refine TO.s rfl rfl rfl (StepS.assign rfl) ?_
            cases hb24
            refine TO.nil fun a w e s => ?_
            exact ⟨e.sub (lk_of_allIn ⟨rfl, rfl, rfl, rfl, rfl, rfl, rfl, rfl, trivial⟩), s⟩
        · replace hb24 := cond_f hc25 hb24
          cases hb24
          refine TC.exit rfl fun a w e s => ?_
          exact ⟨e.sub (lk_of_allIn ⟨rfl, rfl, rfl, rfl, rfl, rfl, trivial⟩), s⟩
      · exact fun a w e s => ⟨e.sub (lk_of_allIn ⟨rfl, rfl, rfl, rfl, rfl, rfl, rfl, rfl, trivial⟩), s⟩
      · rintro x21 rfl a w ⟨he, hs⟩
        dsimp only [Ctl.on] at hm
        refine TC.use ?_ he hs
        refine TC.k ?_
        refine TC.region ?_
        refine TO.s rfl rfl rfl (StepS.move rfl) ?_
        refine TO.s rfl rfl rfl (StepS.cmp rfl rfl rfl) ?_
        refine TO.s rfl rfl rfl (StepS.move rfl) ?_
        obtain ⟨b36, hj37, hm⟩ := bind_some hm
        refine TO.mid1 8 79 (.bool b36) ?_ ?_
        · refine bcase ((r3 == 0)) (fun hb35 => ?_) (fun hb35 => ?_)
          · replace hj37 := cond_t hb35 hj37
            refine TO.sw rfl rfl rfl hb35 rfl rfl (StepS.move rfl) ?_
            refine TO.sw rfl rfl rfl hb35 rfl rfl (StepS.move rfl) ?_
            refine TO.sw rfl rfl rfl hb35 rfl rfl (StepS.move rfl) ?_
            obtain ⟨r38, hc39, hj37⟩ := bind_some hj37
            refine TO.qw rfl rfl rfl hb35 rfl rfl (StepQ.call kcallB_28_true rfl rfl (fun _ st => C28 e0 hc39 st)) ?_
            refine TO.sw rfl rfl rfl hb35 rfl rfl (StepS.move rfl) ?_
            obtain ⟨r40, hc41, hj37⟩ := bind_some hj37
            refine TO.qw rfl rfl rfl hb35 rfl rfl (StepQ.call kcallB_29_true rfl rfl (fun _ st => C29  hc41 st)) ?_
            refine TO.sw rfl rfl rfl hb35 rfl rfl (StepS.eqB kunderlying_4_some_bool rfl rfl) ?_
            cases hj37
            refine TO.s rfl rfl rfl (StepS.pickT rfl hb35 rfl) ?_
            exact TO.up1 8 0 rfl rfl rfl rfl
          · replace hj37 := cond_f hb35 hj37
            cases hj37
            refine TO.skip rfl rfl rfl (skipF hb35) rfl rfl ?_
            refine TO.skip rfl rfl rfl (skipF hb35) rfl rfl ?_
            refine TO.skip rfl rfl rfl (skipF hb35) rfl rfl ?_
            refine TO.skip rfl rfl rfl (skipF hb35) rfl rfl ?_
            refine TO.skip rfl rfl rfl (skipF hb35) rfl rfl ?_
            refine TO.skip rfl rfl rfl (skipF hb35) rfl rfl ?_
            refine TO.skip rfl rfl rfl (skipF hb35) rfl rfl ?_
            refine TO.s rfl rfl rfl (StepS.pickF rfl hb35 rfl) ?_
            exact TO.up1 8 0 rfl rfl rfl rfl
        refine TO.s rfl rfl rfl (StepS.move rfl) ?_
        refine TO.mid1 4 84 (.bool (b36 && (r2 == x21))) ?_ ?_
        · refine bcase (b36) (fun hb42 => ?_) (fun hb42 => ?_)
          · refine TO.sw rfl rfl rfl hb42 rfl rfl (StepS.move rfl) ?_
            refine TO.sw rfl rfl rfl hb42 rfl rfl (StepS.move rfl) ?_
            refine TO.sw rfl rfl rfl hb42 rfl rfl (StepS.cmp rfl rfl rfl) ?_
            refine TO.s rfl rfl rfl (StepS.pickT rfl hb42 rfl) ?_
            exact TO.up1 4 0 rfl rfl (by rw [hb42]; rfl) rfl
          · refine TO.skip rfl rfl rfl (skipF hb42) rfl rfl ?_
            refine TO.skip rfl rfl rfl (skipF hb42) rfl rfl ?_
            refine TO.skip rfl rfl rfl (skipF hb42) rfl rfl ?_
            refine TO.s rfl rfl rfl (StepS.pickF rfl hb42 rfl) ?_
            exact TO.up1 4 0 rfl rfl (by rw [hb42]; rfl) rfl
        refine TO.s rfl rfl rfl (StepS.assign rfl) ?_
        refine TO.code ?_
        cases hm
        refine TC.ret fun a w e s => ?_
        refine FRet.mk1 (P := Try.prog) (fn := Try.f9) (t := 4) e rfl rfl ?_
        exact ⟨rfl, s.mono fun _ => Sat.dropN 0⟩
      · rintro r rfl
        exact fun a w h => h.elim
end Go.Proofs.Ytmlfflaelbofmaa
