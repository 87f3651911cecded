/-
  The walks: each Go function returns what its model says. Written by a program (gen.py).
-/
import Derived.Test.YthfkdepcnhhepaaProg
import Derived.KernelRfl
import Derived.Test.YthfkdepcnhhepaaXW
import Derived.Test.YthfkdepcnhhepaaYW
import Derived.Test.YthfkdepcnhhepaaZM
namespace Go.Proofs.Ythfkdepcnhhepaa
open Go Go.Bk
set_option linter.unusedVariables false
set_option linter.unnecessarySimpa false
theorem ksliceB_24_28_1_true : sliceB Try.prog 24 28 1 = true := by kernel_rfl
theorem kscalB_28_true : scalB Try.prog 28 = true := by kernel_rfl
theorem kcallB_23_true : callB Try.prog 23 = true := by kernel_rfl
theorem kcallB_21_true : callB Try.prog 21 = true := by kernel_rfl
theorem kcallB_24_true : callB Try.prog 24 = true := by kernel_rfl
theorem kcallB_18_true : callB Try.prog 18 = true := by kernel_rfl
theorem kcallB_25_true : callB Try.prog 25 = true := by kernel_rfl

set_option maxRecDepth 100000 in
theorem C21 {B : World} {L : List HP} {a0 : Int} {a1 : Int} {r0 : Int} (hm : F21 a0 a1 = some r0) {w : World} (st : St B L w) : Calls Try.prog 21 #[I a0, I a1] w (fun e w' => (e = .returned (I r0) ∧ St B (L) w')) := by
  refine calls_of (N := 15) (L := L) (args := [I a0, I a1]) Try.func21 rfl rfl rfl ?_ st
  dsimp only [F21] at hm
  refine TC.k ?_
  refine TC.region ?_
  refine TO.s rfl rfl rfl (StepS.assign rfl) ?_
  refine TO.code ?_
  refine TC.k ?_
  refine TC.k ?_
  refine TC.region ?_
  refine TO.s rfl rfl rfl (StepS.move rfl) ?_
  refine TO.s rfl rfl rfl (StepS.cmp rfl rfl rfl) ?_
  refine TO.s rfl rfl rfl (StepS.move rfl) ?_
  refine TO.mid1 3 10 (.bool ((decide (a0 < 1)) || (decide (a0 > 6)))) ?_ ?_
  · refine bcase ((decide (a0 < 1))) (fun hb1 => ?_) (fun hb1 => ?_)
    · refine TO.skip rfl rfl rfl (skipT hb1) rfl rfl ?_
      refine TO.skip rfl rfl rfl (skipT hb1) rfl rfl ?_
      refine TO.s rfl rfl rfl (StepS.pickT rfl hb1 rfl) ?_
      exact TO.up1 3 0 rfl rfl (by rw [hb1]; rfl) rfl
    · refine TO.sw rfl rfl rfl hb1 rfl rfl (StepS.move rfl) ?_
      refine TO.sw rfl rfl rfl hb1 rfl rfl (StepS.cmp rfl rfl rfl) ?_
      refine TO.s rfl rfl rfl (StepS.pickF rfl hb1 rfl) ?_
      exact TO.up1 3 0 rfl rfl (by rw [hb1]; rfl) rfl
  refine TO.s rfl rfl rfl (StepS.move rfl) ?_
  refine TO.mid1 3 14 (.bool (((decide (a0 < 1)) || (decide (a0 > 6))) || (decide (a1 > 60)))) ?_ ?_
  · refine bcase (((decide (a0 < 1)) || (decide (a0 > 6)))) (fun hb2 => ?_) (fun hb2 => ?_)
    · refine TO.skip rfl rfl rfl (skipT hb2) rfl rfl ?_
      refine TO.skip rfl rfl rfl (skipT hb2) rfl rfl ?_
      refine TO.s rfl rfl rfl (StepS.pickT rfl hb2 rfl) ?_
      exact TO.up1 3 0 rfl rfl (by rw [hb2]; rfl) rfl
    · refine TO.sw rfl rfl rfl hb2 rfl rfl (StepS.move rfl) ?_
      refine TO.sw rfl rfl rfl hb2 rfl rfl (StepS.cmp rfl rfl rfl) ?_
      refine TO.s rfl rfl rfl (StepS.pickF rfl hb2 rfl) ?_
      exact TO.up1 3 0 rfl rfl (by rw [hb2]; rfl) rfl
  refine TO.code ?_
  refine TC.cond rfl (fun hc3 => ?_) (fun hc3 => ?_)
  · replace hm := cond_t hc3 hm
    refine TC.k ?_
    refine TC.region ?_
    refine TO.s rfl rfl rfl (StepS.assign rfl) ?_
    refine TO.code ?_
    cases hm
    refine TC.ret fun a w e s => ?_
    refine FRet.mk1 (P := Try.prog) (fn := Try.f21) (t := 4) e rfl rfl ?_
    exact ⟨rfl, s.mono fun _ => Sat.dropN 0⟩
  · replace hm := cond_f hc3 hm
    refine TC.skipk ?_
    refine TC.k ?_
    refine TC.region ?_
    refine TO.s rfl rfl rfl (StepS.assign rfl) ?_
    refine TO.code ?_
    cases hm
    refine TC.ret fun a w e s => ?_
    refine FRet.mk1 (P := Try.prog) (fn := Try.f21) (t := 4) e rfl rfl ?_
    exact ⟨rfl, s.mono fun _ => Sat.dropN 0⟩

set_option maxRecDepth 100000 in
theorem C18 {B : World} {L : List HP} {a0 : List Int} {a1 : List Int} {h0 : Value} {h1 : Value} {r0 : Bool} (e0 : Ent L (Rd 1 h0 (a0.map cI))) (e1 : Ent L (Rd 1 h1 (a1.map cI))) (hm : F18 a0 a1 = some r0) {w : World} (st : St B L w) : Calls Try.prog 18 #[h0, h1] w (fun e w' => (e = .returned (.bool r0) ∧ St B (L) w')) := by
  refine calls_of (N := 26) (L := L) (args := [h0, h1]) Try.func18 rfl rfl rfl ?_ st
  dsimp only [F18] at hm
  refine TC.k ?_
  refine TC.region ?_
  refine TO.s rfl rfl rfl (StepS.assign rfl) ?_
  refine TO.code ?_
  refine TC.k ?_
  refine TC.k ?_
  refine TC.region ?_
  refine TO.s rfl rfl rfl (StepS.move rfl) ?_
  refine TO.s rfl rfl rfl (StepS.lenm rfl e0 ksliceB_24_28_1_true rfl) ?_
  refine TO.s rfl rfl rfl (StepS.move rfl) ?_
  refine TO.s rfl rfl rfl (StepS.lenm rfl e1 ksliceB_24_28_1_true rfl) ?_
  refine TO.s rfl rfl rfl (StepS.cmp rfl rfl rfl) ?_
  refine TO.code ?_
  refine TC.cond rfl (fun hc1 => ?_) (fun hc1 => ?_)
  · replace hm := cond_t hc1 hm
    refine TC.k ?_
    refine TC.region ?_
    refine TO.s rfl rfl rfl (StepS.assign rfl) ?_
    refine TO.code ?_
    cases hm
    refine TC.ret fun a w e s => ?_
    refine FRet.mk1 (P := Try.prog) (fn := Try.f18) (t := 4) e rfl rfl ?_
    exact ⟨rfl, s.mono fun _ => Sat.dropN 0⟩
  · replace hm := cond_f hc1 hm
    refine TC.skipk ?_
    refine TC.k ?_
    refine TC.k ?_
    refine TC.region ?_
    refine TO.s rfl rfl rfl (StepS.assign rfl) ?_
    refine TO.code ?_
    obtain ⟨o4, hw5, hm⟩ := bind_some hm
    refine TC.loop hw5 (fun x2 => fun a w => Mid 26 B [(0, h0), (1, h1), (5, I x2)] (L) a w) (fun _ => fun a w => Mid 26 B [] (L) a w) (fun r0 => FRet Try.prog Try.f18 (fun e w' => (e = .returned (.bool r0) ∧ St B (L) w'))) ?_ ?_ ?_ ?_
    · rintro x2 o4r hb6 a w ⟨he, hs⟩
      dsimp only [F18_L0] at hb6
      refine TC.use ?_ he hs
      refine TC.k ?_
      refine TC.k ?_
      refine TC.region ?_
      refine TO.s rfl rfl rfl (StepS.move rfl) ?_
      refine TO.s rfl rfl rfl (StepS.move rfl) ?_
      refine TO.s rfl rfl rfl (StepS.lenm rfl e0 ksliceB_24_28_1_true rfl) ?_
      refine TO.s rfl rfl rfl (StepS.cmp rfl rfl rfl) ?_
      refine TO.code ?_
      refine TC.cond rfl (fun hc7 => ?_) (fun hc7 => ?_)
      · replace hb6 := cond_t hc7 hb6
        refine TC.skipk ?_
        refine TC.k ?_
        refine TC.block ?_
        refine TC.k ?_
        refine TC.region_still kfollows_mixedOrders_true (by kernel_rfl) ?_
        refine TS.s rfl rfl rfl (StepS.move rfl) ?_
        refine TS.s rfl rfl rfl (StepS.move rfl) ?_
        obtain ⟨x8, hx9, hb6⟩ := bind_some hb6
        refine TS.s rfl rfl rfl (StepS.idx rfl rfl e0 ksliceB_24_28_1_true (idx_spec hx9).1 (idxm_lt hx9)) ?_
        refine TS.s rfl rfl rfl (StepS.ld0 rfl e0 kscalB_28_true rfl (idxm hx9) rfl) ?_
        refine TS.s rfl rfl rfl (StepS.move rfl) ?_
        refine TS.s rfl rfl rfl (StepS.move rfl) ?_
        obtain ⟨x10, hx11, hb6⟩ := bind_some hb6
        refine TS.s rfl rfl rfl (StepS.idx rfl rfl e1 ksliceB_24_28_1_true (idx_spec hx11).1 (idxm_lt hx11)) ?_
        refine TS.s rfl rfl rfl (StepS.ld0 rfl e1 kscalB_28_true rfl (idxm hx11) rfl) ?_
        refine TS.s rfl rfl rfl (StepS.cmp rfl rfl rfl) ?_
        refine TS.code ?_
        refine TC.cond rfl (fun hc12 => ?_) (fun hc12 => ?_)
        · replace hb6 := cond_t hc12 hb6
          refine TC.k ?_
          refine TC.region ?_
          refine TO.s rfl rfl rfl (StepS.assign rfl) ?_
          refine TO.code ?_
          cases hb6
          refine TC.ret fun a w e s => ?_
          refine FRet.mk1 (P := Try.prog) (fn := Try.f18) (t := 4) e rfl rfl ?_
          exact ⟨rfl, s.mono fun _ => Sat.dropN 0⟩
        · replace hb6 := cond_f hc12 hb6
          refine TC.skipk ?_
          refine TC.region ?_
          refine TO.s rfl rfl rfl (StepS.move rfl) ?_
          refine TO.s rfl rfl rfl (StepS.ari rfl rfl rfl) ?_
          refine TO.s rfl rfl rfl (StepS.assign rfl) ?_
          cases hb6
          refine TO.nil fun a w e s => ?_
          exact ⟨e.sub (lk_of_allIn ⟨rfl, rfl, rfl, trivial⟩), s⟩
      · replace hb6 := cond_f hc7 hb6
        cases hb6
        refine TC.exit rfl fun a w e s => ?_
        exact ⟨e.sub (lk_of_allIn trivial), s⟩
    · exact fun a w e s => ⟨e.sub (lk_of_allIn ⟨rfl, rfl, rfl, trivial⟩), s⟩
    · rintro _ rfl a w ⟨he, hs⟩
      dsimp only [Ctl.on] at hm
      refine TC.use ?_ he hs
      refine TC.k ?_
      refine TC.region ?_
      refine TO.s rfl rfl rfl (StepS.assign rfl) ?_
      refine TO.code ?_
      cases hm
      refine TC.ret fun a w e s => ?_
      refine FRet.mk1 (P := Try.prog) (fn := Try.f18) (t := 4) e rfl rfl ?_
      exact ⟨rfl, s.mono fun _ => Sat.dropN 0⟩
    · rintro r rfl
      cases hm
      exact fun a w h => h

set_option maxRecDepth 100000 in
theorem C25 {B : World} {L : List HP} {a0 : List Int} {a1 : List Int} {h0 : Value} {h1 : Value} {r0 : Bool} (e0 : Ent L (Rd 1 h0 (a0.map cI))) (e1 : Ent L (Rd 1 h1 (a1.map cI))) (hm : F25 a0 a1 = some r0) {w : World} (st : St B L w) : Calls Try.prog 25 #[h0, h1] w (fun e w' => (e = .returned (.bool r0) ∧ St B (L) w')) := by
  refine calls_of (N := 26) (L := L) (args := [h0, h1]) Try.func25 rfl rfl rfl ?_ st
  dsimp only [F25] at hm
  refine TC.k ?_
  refine TC.region ?_
  refine TO.s rfl rfl rfl (StepS.assign rfl) ?_
  refine TO.code ?_
  refine TC.k ?_
  refine TC.k ?_
  refine TC.region ?_
  refine TO.s rfl rfl rfl (StepS.move rfl) ?_
  refine TO.s rfl rfl rfl (StepS.lenm rfl e0 ksliceB_22_3_1_true rfl) ?_
  refine TO.s rfl rfl rfl (StepS.move rfl) ?_
  refine TO.s rfl rfl rfl (StepS.lenm rfl e1 ksliceB_22_3_1_true rfl) ?_
  refine TO.s rfl rfl rfl (StepS.cmp rfl rfl rfl) ?_
  refine TO.code ?_
  refine TC.cond rfl (fun hc1 => ?_) (fun hc1 => ?_)
  · replace hm := cond_t hc1 hm
    refine TC.k ?_
    refine TC.region ?_
    refine TO.s rfl rfl rfl (StepS.assign rfl) ?_
    refine TO.code ?_
    cases hm
    refine TC.ret fun a w e s => ?_
    refine FRet.mk1 (P := Try.prog) (fn := Try.f25) (t := 4) e rfl rfl ?_
    exact ⟨rfl, s.mono fun _ => Sat.dropN 0⟩
  · replace hm := cond_f hc1 hm
    refine TC.skipk ?_
    refine TC.k ?_
    refine TC.k ?_
    refine TC.region ?_
    refine TO.s rfl rfl rfl (StepS.assign rfl) ?_
    refine TO.code ?_
    obtain ⟨o4, hw5, hm⟩ := bind_some hm
    refine TC.loop hw5 (fun x2 => fun a w => Mid 26 B [(0, h0), (1, h1), (5, I x2)] (L) a w) (fun _ => fun a w => Mid 26 B [] (L) a w) (fun r0 => FRet Try.prog Try.f25 (fun e w' => (e = .returned (.bool r0) ∧ St B (L) w'))) ?_ ?_ ?_ ?_
    · rintro x2 o4r hb6 a w ⟨he, hs⟩
      dsimp only [F25_L0] at hb6
      refine TC.use ?_ he hs
      refine TC.k ?_
      refine TC.k ?_
      refine TC.region ?_
      refine TO.s rfl rfl rfl (StepS.move rfl) ?_
      refine TO.s rfl rfl rfl (StepS.move rfl) ?_
      refine TO.s rfl rfl rfl (StepS.lenm rfl e0 ksliceB_22_3_1_true rfl) ?_
      refine TO.s rfl rfl rfl (StepS.cmp rfl rfl rfl) ?_
      refine TO.code ?_
      refine TC.cond rfl (fun hc7 => ?_) (fun hc7 => ?_)
      · replace hb6 := cond_t hc7 hb6
        refine TC.skipk ?_
        refine TC.k ?_
        refine TC.block ?_
        refine TC.k ?_
        refine TC.region_still kfollows_mixedOrders_true (by kernel_rfl) ?_
        refine TS.s rfl rfl rfl (StepS.move rfl) ?_
        refine TS.s rfl rfl rfl (StepS.move rfl) ?_
        obtain ⟨x8, hx9, hb6⟩ := bind_some hb6
        refine TS.s rfl rfl rfl (StepS.idx rfl rfl e0 ksliceB_22_3_1_true (idx_spec hx9).1 (idxm_lt hx9)) ?_
        refine TS.s rfl rfl rfl (StepS.ld0 rfl e0 kscalB_3_true rfl (idxm hx9) rfl) ?_
        refine TS.s rfl rfl rfl (StepS.move rfl) ?_
        refine TS.s rfl rfl rfl (StepS.move rfl) ?_
        obtain ⟨x10, hx11, hb6⟩ := bind_some hb6
        refine TS.s rfl rfl rfl (StepS.idx rfl rfl e1 ksliceB_22_3_1_true (idx_spec hx11).1 (idxm_lt hx11)) ?_
        refine TS.s rfl rfl rfl (StepS.ld0 rfl e1 kscalB_3_true rfl (idxm hx11) rfl) ?_
        refine TS.s rfl rfl rfl (StepS.cmp rfl rfl rfl) ?_
        refine TS.code ?_
        refine TC.cond rfl (fun hc12 => ?_) (fun hc12 => ?_)
        · replace hb6 := cond_t hc12 hb6
          refine TC.k ?_
          refine TC.region ?_
          refine TO.s rfl rfl rfl (StepS.assign rfl) ?_
          refine TO.code ?_
          cases hb6
          refine TC.ret fun a w e s => ?_
          refine FRet.mk1 (P := Try.prog) (fn := Try.f25) (t := 4) e rfl rfl ?_
          exact ⟨rfl, s.mono fun _ => Sat.dropN 0⟩
        · replace hb6 := cond_f hc12 hb6
          refine TC.skipk ?_
          refine TC.region ?_
          refine TO.s rfl rfl rfl (StepS.move rfl) ?_
          refine TO.s rfl rfl rfl (StepS.ari rfl rfl rfl) ?_
          refine TO.s rfl rfl rfl (StepS.assign rfl) ?_
          cases hb6
          refine TO.nil fun a w e s => ?_
          exact ⟨e.sub (lk_of_allIn ⟨rfl, rfl, rfl, trivial⟩), s⟩
      · replace hb6 := cond_f hc7 hb6
        cases hb6
        refine TC.exit rfl fun a w e s => ?_
        exact ⟨e.sub (lk_of_allIn trivial), s⟩
    · exact fun a w e s => ⟨e.sub (lk_of_allIn ⟨rfl, rfl, rfl, trivial⟩), s⟩
    · rintro _ rfl a w ⟨he, hs⟩
      dsimp only [Ctl.on] at hm
      refine TC.use ?_ he hs
      refine TC.k ?_
      refine TC.region ?_
      refine TO.s rfl rfl rfl (StepS.assign rfl) ?_
      refine TO.code ?_
      cases hm
      refine TC.ret fun a w e s => ?_
      refine FRet.mk1 (P := Try.prog) (fn := Try.f25) (t := 4) e rfl rfl ?_
      exact ⟨rfl, s.mono fun _ => Sat.dropN 0⟩
    · rintro r rfl
      cases hm
      exact fun a w h => h

set_option maxRecDepth 100000 in
theorem C5 {B : World} {L : List HP} {a0 : Int} {a1 : List (Int × Int × Int × Int)} {h1 : Value} {r0 : Bool} (e1 : Ent L (Rd 4 h1 (a1.map cTiiii))) (hm : F5 a0 a1 = some r0) {w : World} (st : St B L w) : Calls Try.prog 5 #[I a0, h1] w (fun e w' => (e = .returned (.bool r0) ∧ St B (L) w')) := by
  refine calls_of (N := 63) (L := L) (args := [I a0, h1]) Try.func5 rfl rfl rfl ?_ st
  dsimp only [F5] at hm
  refine TC.k ?_
  refine TC.region ?_
  refine TO.s rfl rfl rfl (StepS.assign rfl) ?_
  refine TO.code ?_
  refine TC.k ?_
  refine TC.region ?_
  refine TO.s rfl rfl rfl (StepS.move rfl) ?_
  refine TO.s rfl rfl rfl (StepS.move rfl) ?_
  obtain ⟨⟨r1, r2⟩, hc3, hm⟩ := bind_some hm
  refine TO.callO kcallB_23_true rfl rfl rfl (fun _ st => C23 e1 hc3 st) ?_
  rintro _ _ ⟨v4, v6, v8, v10, rfl, rfl⟩
  refine TO.s rfl rfl rfl (StepS.move rfl) ?_
  refine TO.s rfl rfl rfl (StepS.extract rfl rfl) ?_
  refine TO.s rfl rfl rfl (StepS.extract rfl rfl) ?_
  refine TO.alloc kinfo_45_bind_zero_some_agg_slice_none_0_0_I_0_slice_none_0_0_slice_none_0_0_slice_none_0_0 rfl rfl fun b12 => ?_
  refine TO.pure (fun _ s => Rd.one (OwnS.rd (Ent.at 1 rfl)) s) fun oc13 => ?_
  refine TO.pure (fun _ s => Rd.one (OwnS.rd (Ent.at 2 rfl)) s) fun oc14 => ?_
  refine TO.pure (fun _ s => Rd.one (OwnS.rd (Ent.at 3 rfl)) s) fun oc15 => ?_
  refine TO.pure (fun _ s => Rd.one (OwnS.rd (Ent.at 4 rfl)) s) fun oc16 => ?_
  refine TO.stB (us := [v4, I r1.2.1, v6, v8, v10]) 0 [v4, I r1.2.1, v6, v8, v10] rfl rfl rfl ksizeB_45_5_true rfl rfl rfl (by intro u hu; simp only [List.mem_cons, List.not_mem_nil, or_false] at hu; rcases hu with rfl | rfl | rfl | rfl | rfl <;> first | exact oc13.1 | exact oc14.1 | exact oc15.1 | exact oc16.1 | rfl) rfl ?_
  refine TO.s rfl rfl rfl (StepS.assign rfl) ?_
  refine TO.code ?_
  refine TC.k ?_
  refine TC.region ?_
  refine TO.s rfl rfl rfl (StepS.move rfl) ?_
  refine TO.s rfl rfl rfl (StepS.move rfl) ?_
  refine TO.s rfl rfl rfl (StepS.lenm rfl e1.tl.tl.tl.tl.tl ksliceB_23_106_4_true rfl) ?_
  obtain ⟨r17, hc18, hm⟩ := bind_some hm
  refine TO.q rfl rfl rfl (StepQ.call kcallB_21_true rfl rfl (fun _ st => C21  hc18 st)) ?_
  refine TO.s rfl rfl rfl (StepS.assign rfl) ?_
  refine TO.code ?_
  refine TC.k ?_
  refine TC.region ?_
  refine TO.s rfl rfl rfl (StepS.build (cs := [.slice none 0 0, I 0, .slice none 0 0, .slice none 0 0, .slice none 0 0]) rfl (by kernel_rfl)) ?_
  refine TO.alloc kinfo_45_bind_zero_some_agg_slice_none_0_0_I_0_slice_none_0_0_slice_none_0_0_slice_none_0_0 rfl rfl fun b19 => ?_
  refine TO.stB (us := [.slice none 0 0, I 0, .slice none 0 0, .slice none 0 0, .slice none 0 0]) 0 [.slice none 0 0, I 0, .slice none 0 0, .slice none 0 0, .slice none 0 0] rfl rfl rfl ksizeB_45_5_true rfl rfl rfl (by simp [Value.oneCell']) rfl ?_
  refine TO.code ?_
  refine TC.k ?_
  refine TC.k ?_
  refine TC.region ?_
  refine TO.s rfl rfl rfl (StepS.move rfl) ?_
  refine TO.s rfl rfl rfl (StepS.cmp rfl rfl rfl) ?_
  refine TO.code ?_
  obtain ⟨⟨y22, y25, y28, y31, x32⟩, hj33, hm⟩ := bind_some hm
  first | refine TC.cutM (fun a w => ∃ v20 : Value, ∃ v23 : Value, ∃ v26 : Value, ∃ v29 : Value, Mid 63 B [(5, .pointer (some ⟨b12, 0, none⟩)), (6, I r2), (7, I r17), (8, .pointer (some ⟨b19, 0, none⟩))] (OwnS 28 1 v20 (y22.map cI) :: OwnS 3 1 v23 (y25.map cI) :: OwnS 3 1 v26 (y28.map cI) :: OwnS 3 1 v29 (y31.map cI) :: Bx b19 45 [v20, I x32, v23, v26, v29] :: Bx b12 45 [v4, I r1.2.1, v6, v8, v10] :: OwnS 28 1 v4 (r1.1.map cI) :: OwnS 3 1 v6 (r1.2.2.1.map cI) :: OwnS 3 1 v8 (r1.2.2.2.1.map cI) :: OwnS 3 1 v10 (r1.2.2.2.2.map cI) :: L) a w) ?_ ?_ | refine TC.cutX (fun a w => ∃ v20 : Value, ∃ v23 : Value, ∃ v26 : Value, ∃ v29 : Value, Mid 63 B [(5, .pointer (some ⟨b12, 0, none⟩)), (6, I r2), (7, I r17), (8, .pointer (some ⟨b19, 0, none⟩))] (OwnS 28 1 v20 (y22.map cI) :: OwnS 3 1 v23 (y25.map cI) :: OwnS 3 1 v26 (y28.map cI) :: OwnS 3 1 v29 (y31.map cI) :: Bx b19 45 [v20, I x32, v23, v26, v29] :: Bx b12 45 [v4, I r1.2.1, v6, v8, v10] :: OwnS 28 1 v4 (r1.1.map cI) :: OwnS 3 1 v6 (r1.2.2.1.map cI) :: OwnS 3 1 v8 (r1.2.2.2.1.map cI) :: OwnS 3 1 v10 (r1.2.2.2.2.map cI) :: L) a w) ?_ ?_
  · refine TC.cond rfl (fun hc34 => ?_) (fun hc34 => ?_)
    · replace hj33 := cond_t hc34 hj33
      refine TC.region ?_
      refine TO.s rfl rfl rfl (StepS.move rfl) ?_
      refine TO.s rfl rfl rfl (StepS.move rfl) ?_
      obtain ⟨r35, hc36, hj33⟩ := bind_some hj33
      refine TO.callO kcallB_24_true rfl rfl rfl (fun _ st => C24 e1.tl.tl.tl.tl.tl.tl hc36 st) ?_
      rintro _ _ ⟨v37, v39, v41, v43, rfl, rfl⟩
      refine TO.pure (fun _ s => Rd.one (OwnS.rd (Ent.at 0 rfl)) s) fun oc45 => ?_
      refine TO.pure (fun _ s => Rd.one (OwnS.rd (Ent.at 1 rfl)) s) fun oc46 => ?_
      refine TO.pure (fun _ s => Rd.one (OwnS.rd (Ent.at 2 rfl)) s) fun oc47 => ?_
      refine TO.pure (fun _ s => Rd.one (OwnS.rd (Ent.at 3 rfl)) s) fun oc48 => ?_
      refine TO.stB (us := [v37, I r35.2.1, v39, v41, v43]) 4 [v37, I r35.2.1, v39, v41, v43] rfl rfl rfl ksizeB_45_5_true rfl rfl rfl (by intro u hu; simp only [List.mem_cons, List.not_mem_nil, or_false] at hu; rcases hu with rfl | rfl | rfl | rfl | rfl <;> first | exact oc45.1 | exact oc46.1 | exact oc47.1 | exact oc48.1 | rfl) rfl ?_
      cases hj33
      refine TO.nil fun a w e s => ?_
      exact ⟨v37, v39, v41, v43, e.sub (lk_of_allIn ⟨rfl, rfl, rfl, rfl, trivial⟩), s⟩
    · replace hj33 := cond_f hc34 hj33
      cases hj33
      refine TC.skip fun a w e s => ?_
      exact ⟨.slice none 0 0, .slice none 0 0, .slice none 0 0, .slice none 0 0, e.sub (lk_of_allIn ⟨rfl, rfl, rfl, rfl, trivial⟩), s.mono fun _ s => (by replace s := Sat.front 5 rfl s; replace s := Sat.front 5 rfl s; replace s := Sat.front 5 rfl s; replace s := Sat.front 5 rfl s; replace s := Sat.front 5 rfl s; replace s := Sat.front 5 rfl s; replace s := Sat.nilS (e := 3) (sz := 1) (f := cI) s; replace s := Sat.nilS (e := 3) (sz := 1) (f := cI) s; replace s := Sat.nilS (e := 3) (sz := 1) (f := cI) s; replace s := Sat.nilS (e := 28) (sz := 1) (f := cI) s; exact s)⟩
  · intro a w ⟨v20, v23, v26, v29, he, hs⟩
    refine TC.use ?_ he hs
    refine TC.k ?_
    refine TC.region ?_
    refine TO.s rfl rfl rfl (StepS.move rfl) ?_
    refine TO.s rfl rfl rfl (StepS.move rfl) ?_
    refine TO.s rfl rfl rfl (StepS.cmp rfl rfl rfl) ?_
    refine TO.s rfl rfl rfl (StepS.move rfl) ?_
    obtain ⟨b50, hj51, hm⟩ := bind_some hm
    refine TO.mid1 6 34 (.bool b50) ?_ ?_
    · refine bcase ((r2 == r17)) (fun hb49 => ?_) (fun hb49 => ?_)
      · replace hj51 := cond_t hb49 hj51
        refine TO.sw rfl rfl rfl hb49 rfl rfl (StepS.fld rfl kfieldB_45_0_0_true) ?_
        refine TO.sw rfl rfl rfl hb49 rfl rfl (StepS.ldB rfl (Ent.at 5 rfl) kscalB_24_true rfl) ?_
        refine TO.sw rfl rfl rfl hb49 rfl rfl (StepS.fld rfl kfieldB_45_0_0_true) ?_
        refine TO.sw rfl rfl rfl hb49 rfl rfl (StepS.ldB rfl (Ent.at 4 rfl) kscalB_24_true rfl) ?_
        obtain ⟨r52, hc53, hj51⟩ := bind_some hj51
        refine TO.qw rfl rfl rfl hb49 rfl rfl (StepQ.call kcallB_18_true rfl rfl (fun _ st => C18 (OwnS.rd (Ent.at 6 rfl)) (OwnS.rd (Ent.at 0 rfl)) hc53 st)) ?_
        cases hj51
        refine TO.s rfl rfl rfl (StepS.pickT rfl hb49 rfl) ?_
        exact TO.up1 6 0 rfl rfl rfl rfl
      · replace hj51 := cond_f hb49 hj51
        cases hj51
        refine TO.skip rfl rfl rfl (skipF hb49) rfl rfl ?_
        refine TO.skip rfl rfl rfl (skipF hb49) rfl rfl ?_
        refine TO.skip rfl rfl rfl (skipF hb49) rfl rfl ?_
        refine TO.skip rfl rfl rfl (skipF hb49) rfl rfl ?_
        refine TO.skip rfl rfl rfl (skipF hb49) rfl rfl ?_
        refine TO.s rfl rfl rfl (StepS.pickF rfl hb49 rfl) ?_
        exact TO.up1 6 0 rfl rfl rfl rfl
    refine TO.s rfl rfl rfl (StepS.move rfl) ?_
    refine TO.mid1 6 41 (.bool (b50 && (r1.2.1 == x32))) ?_ ?_
    · refine bcase (b50) (fun hb54 => ?_) (fun hb54 => ?_)
      · refine TO.sw rfl rfl rfl hb54 rfl rfl (StepS.fld rfl kfieldB_45_1_1_true) ?_
        refine TO.sw rfl rfl rfl hb54 rfl rfl (StepS.ldB rfl (Ent.at 5 rfl) kscalB_3_true rfl) ?_
        refine TO.sw rfl rfl rfl hb54 rfl rfl (StepS.fld rfl kfieldB_45_1_1_true) ?_
        refine TO.sw rfl rfl rfl hb54 rfl rfl (StepS.ldB rfl (Ent.at 4 rfl) kscalB_3_true rfl) ?_
        refine TO.sw rfl rfl rfl hb54 rfl rfl (StepS.cmp rfl rfl rfl) ?_
        refine TO.s rfl rfl rfl (StepS.pickT rfl hb54 rfl) ?_
        exact TO.up1 6 0 rfl rfl (by rw [hb54]; rfl) rfl
      · refine TO.skip rfl rfl rfl (skipF hb54) rfl rfl ?_
        refine TO.skip rfl rfl rfl (skipF hb54) rfl rfl ?_
        refine TO.skip rfl rfl rfl (skipF hb54) rfl rfl ?_
        refine TO.skip rfl rfl rfl (skipF hb54) rfl rfl ?_
        refine TO.skip rfl rfl rfl (skipF hb54) rfl rfl ?_
        refine TO.s rfl rfl rfl (StepS.pickF rfl hb54 rfl) ?_
        exact TO.up1 6 0 rfl rfl (by rw [hb54]; rfl) rfl
    refine TO.s rfl rfl rfl (StepS.move rfl) ?_
    obtain ⟨b56, hj57, hm⟩ := bind_some hm
    refine TO.mid1 6 48 (.bool b56) ?_ ?_
    · refine bcase ((b50 && (r1.2.1 == x32))) (fun hb55 => ?_) (fun hb55 => ?_)
      · replace hj57 := cond_t hb55 hj57
        refine TO.sw rfl rfl rfl hb55 rfl rfl (StepS.fld rfl kfieldB_45_2_2_true) ?_
        refine TO.sw rfl rfl rfl hb55 rfl rfl (StepS.ldB rfl (Ent.at 5 rfl) kscalB_22_true rfl) ?_
        refine TO.sw rfl rfl rfl hb55 rfl rfl (StepS.fld rfl kfieldB_45_2_2_true) ?_
        refine TO.sw rfl rfl rfl hb55 rfl rfl (StepS.ldB rfl (Ent.at 4 rfl) kscalB_22_true rfl) ?_
        obtain ⟨r58, hc59, hj57⟩ := bind_some hj57
        refine TO.qw rfl rfl rfl hb55 rfl rfl (StepQ.call kcallB_25_true rfl rfl (fun _ st => C25 (OwnS.rd (Ent.at 7 rfl)) (OwnS.rd (Ent.at 1 rfl)) hc59 st)) ?_
        cases hj57
        refine TO.s rfl rfl rfl (StepS.pickT rfl hb55 rfl) ?_
        exact TO.up1 6 0 rfl rfl rfl rfl
      · replace hj57 := cond_f hb55 hj57
        cases hj57
        refine TO.skip rfl rfl rfl (skipF hb55) rfl rfl ?_
        refine TO.skip rfl rfl rfl (skipF hb55) rfl rfl ?_
        refine TO.skip rfl rfl rfl (skipF hb55) rfl rfl ?_
        refine TO.skip rfl rfl rfl (skipF hb55) rfl rfl ?_
        refine TO.skip rfl rfl rfl (skipF hb55) rfl rfl ?_
        refine TO.s rfl rfl rfl (StepS.pickF rfl hb55 rfl) ?_
        exact TO.up1 6 0 rfl rfl rfl rfl
    refine TO.s rfl rfl rfl (StepS.move rfl) ?_
    obtain ⟨b61, hj62, hm⟩ := bind_some hm
    refine TO.mid1 6 55 (.bool b61) ?_ ?_
    · refine bcase (b56) (fun hb60 => ?_) (fun hb60 => ?_)
      · replace hj62 := cond_t hb60 hj62
        refine TO.sw rfl rfl rfl hb60 rfl rfl (StepS.fld rfl kfieldB_45_3_3_true) ?_
        refine TO.sw rfl rfl rfl hb60 rfl rfl (StepS.ldB rfl (Ent.at 5 rfl) kscalB_22_true rfl) ?_
        refine TO.sw rfl rfl rfl hb60 rfl rfl (StepS.fld rfl kfieldB_45_3_3_true) ?_
        refine TO.sw rfl rfl rfl hb60 rfl rfl (StepS.ldB rfl (Ent.at 4 rfl) kscalB_22_true rfl) ?_
        obtain ⟨r63, hc64, hj62⟩ := bind_some hj62
        refine TO.qw rfl rfl rfl hb60 rfl rfl (StepQ.call kcallB_25_true rfl rfl (fun _ st => C25 (OwnS.rd (Ent.at 8 rfl)) (OwnS.rd (Ent.at 2 rfl)) hc64 st)) ?_
        cases hj62
        refine TO.s rfl rfl rfl (StepS.pickT rfl hb60 rfl) ?_
        exact TO.up1 6 0 rfl rfl rfl rfl
      · replace hj62 := cond_f hb60 hj62
        cases hj62
        refine TO.skip rfl rfl rfl (skipF hb60) rfl rfl ?_
        refine TO.skip rfl rfl rfl (skipF hb60) rfl rfl ?_
        refine TO.skip rfl rfl rfl (skipF hb60) rfl rfl ?_
        refine TO.skip rfl rfl rfl (skipF hb60) rfl rfl ?_
        refine TO.skip rfl rfl rfl (skipF hb60) rfl rfl ?_
        refine TO.s rfl rfl rfl (StepS.pickF rfl hb60 rfl) ?_
        exact TO.up1 6 0 rfl rfl rfl rfl
    refine TO.s rfl rfl rfl (StepS.move rfl) ?_
    obtain ⟨b66, hj67, hm⟩ := bind_some hm
    refine TO.mid1 6 62 (.bool b66) ?_ ?_
    · refine bcase (b61) (fun hb65 => ?_) (fun hb65 => ?_)
      · replace hj67 := cond_t hb65 hj67
        refine TO.sw rfl rfl rfl hb65 rfl rfl (StepS.fld rfl kfieldB_45_4_4_true) ?_
        refine TO.sw rfl rfl rfl hb65 rfl rfl (StepS.ldB rfl (Ent.at 5 rfl) kscalB_22_true rfl) ?_
        refine TO.sw rfl rfl rfl hb65 rfl rfl (StepS.fld rfl kfieldB_45_4_4_true) ?_
        refine TO.sw rfl rfl rfl hb65 rfl rfl (StepS.ldB rfl (Ent.at 4 rfl) kscalB_22_true rfl) ?_
        obtain ⟨r68, hc69, hj67⟩ := bind_some hj67
        refine TO.qw rfl rfl rfl hb65 rfl rfl (StepQ.call kcallB_25_true rfl rfl (fun _ st => C25 (OwnS.rd (Ent.at 9 rfl)) (OwnS.rd (Ent.at 3 rfl)) hc69 st)) ?_
        cases hj67
        refine TO.s rfl rfl rfl (StepS.pickT rfl hb65 rfl) ?_
        exact TO.up1 6 0 rfl rfl rfl rfl
      · replace hj67 := cond_f hb65 hj67
        cases hj67
        refine TO.skip rfl rfl rfl (skipF hb65) rfl rfl ?_
        refine TO.skip rfl rfl rfl (skipF hb65) rfl rfl ?_
        refine TO.skip rfl rfl rfl (skipF hb65) rfl rfl ?_
        refine TO.skip rfl rfl rfl (skipF hb65) rfl rfl ?_
        refine TO.skip rfl rfl rfl (skipF hb65) rfl rfl ?_
        refine TO.s rfl rfl rfl (StepS.pickF rfl hb65 rfl) ?_
        exact TO.up1 6 0 rfl rfl rfl rfl
    refine TO.s rfl rfl rfl (StepS.assign rfl) ?_
    refine TO.code ?_
    cases hm
    refine TC.ret fun a w e s => ?_
    refine FRet.mk1 (P := Try.prog) (fn := Try.f5) (t := 4) e rfl rfl ?_
    exact ⟨rfl, s.mono fun _ => Sat.dropN 10⟩
end Go.Proofs.Ythfkdepcnhhepaa
