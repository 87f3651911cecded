/-
  The walks: each Go function returns what its model says. Written by a program (gen.py).
-/
import Derived.Test.YtmfidlalejdikaaProg
import Derived.KernelRfl
import Derived.Test.YtmfidlalejdikaaAW
import Derived.Test.YtmfidlalejdikaaSF
import Derived.Test.YtmfidlalejdikaaTM
namespace Go.Proofs.Ytmfidlalejdikaa
open Go Go.Bk
set_option linter.unusedVariables false
set_option linter.unnecessarySimpa false
theorem kcallB_58_true : callB Try.prog 58 = true := by kernel_rfl
theorem kscalB_34_true : scalB Try.prog 34 = true := by kernel_rfl
theorem kcallB_50_true : callB Try.prog 50 = true := by kernel_rfl
theorem kscalB_22_true : scalB Try.prog 22 = true := by kernel_rfl
theorem kcallB_49_true : callB Try.prog 49 = true := by kernel_rfl
theorem kinfo_34_bind_zero_some_slice_none_0_0 : (Try.prog.info? 34).bind (·.zero) = some (.slice none 0 0) := by kernel_rfl
theorem ksizeB_34_1_true : sizeB Try.prog 34 1 = true := by kernel_rfl
theorem kcallB_47_true : callB Try.prog 47 = true := by kernel_rfl
theorem kcallB_48_true : callB Try.prog 48 = true := by kernel_rfl
theorem kcallB_37_true : callB Try.prog 37 = true := by kernel_rfl
theorem kcallB_38_true : callB Try.prog 38 = true := by kernel_rfl

set_option maxRecDepth 100000 in
theorem C58 {B : World} {L : List HP} {a0 : Int} {r0 : Bool} (hm : F58 a0 = some r0) {w : World} (st : St B L w) : Calls Try.prog 58 #[I a0] w (fun e w' => (e = .returned (.bool r0) ∧ St B (L) w')) := by
  refine calls_of (N := 6) (L := L) (args := [I a0]) Try.func58 rfl rfl rfl ?_ st
  dsimp only [F58] at hm
  refine TC.k ?_
  refine TC.region ?_
  refine TO.s rfl rfl rfl (StepS.assign rfl) ?_
  refine TO.code ?_
  refine TC.k ?_
  refine TC.region ?_
  refine TO.s rfl rfl rfl (StepS.move rfl) ?_
  refine TO.s rfl rfl rfl (StepS.move rfl) ?_
  refine TO.s rfl rfl rfl (StepS.cmp rfl rfl rfl) ?_
  refine TO.s rfl rfl rfl (StepS.assign rfl) ?_
  refine TO.code ?_
  cases hm
  refine TC.ret fun a w e s => ?_
  refine FRet.mk1 (P := Try.prog) (fn := Try.f58) (t := 2) e rfl rfl ?_
  exact ⟨rfl, s.mono fun _ => Sat.dropN 0⟩

set_option maxRecDepth 100000 in
theorem C50 {B : World} {L : List HP} {a0 : Int} {a1 : Int} {r0 : Int} (hm : F50 a0 a1 = some r0) {w : World} (st : St B L w) : Calls Try.prog 50 #[I a0, I a1] w (fun e w' => (e = .returned (I r0) ∧ St B (L) w')) := by
  refine calls_of (N := 20) (L := L) (args := [I a0, I a1]) Try.func50 rfl rfl rfl ?_ st
  dsimp only [F50] at hm
  refine TC.k ?_
  refine TC.region ?_
  refine TO.s rfl rfl rfl (StepS.assign rfl) ?_
  refine TO.code ?_
  refine TC.k ?_
  refine TC.region ?_
  refine TO.s rfl rfl rfl (StepS.move rfl) ?_
  obtain ⟨r1, hc2, hm⟩ := bind_some hm
  refine TO.q rfl rfl rfl (StepQ.call kcallB_58_true rfl rfl (fun _ st => C58  hc2 st)) ?_
  refine TO.s rfl rfl rfl (StepS.assign rfl) ?_
  refine TO.code ?_
  refine TC.k ?_
  refine TC.region ?_
  refine TO.s rfl rfl rfl (StepS.move rfl) ?_
  obtain ⟨r3, hc4, hm⟩ := bind_some hm
  refine TO.q rfl rfl rfl (StepQ.call kcallB_58_true rfl rfl (fun _ st => C58  hc4 st)) ?_
  refine TO.s rfl rfl rfl (StepS.assign rfl) ?_
  refine TO.code ?_
  refine TC.k ?_
  refine TC.k ?_
  refine TC.region ?_
  refine TO.s rfl rfl rfl (StepS.move rfl) ?_
  refine TO.code ?_
  refine TC.cond rfl (fun hc5 => ?_) (fun hc5 => ?_)
  · replace hm := cond_t hc5 hm
    refine TC.k ?_
    refine TC.k ?_
    refine TC.region ?_
    refine TO.s rfl rfl rfl (StepS.move rfl) ?_
    refine TO.code ?_
    refine TC.cond rfl (fun hc6 => ?_) (fun hc6 => ?_)
    · replace hm := cond_t hc6 hm
      refine TC.k ?_
      refine TC.region ?_
      refine TO.s rfl rfl rfl (StepS.assign rfl) ?_
      refine TO.code ?_
      cases hm
      refine TC.ret fun a w e s => ?_
      refine FRet.mk1 (P := Try.prog) (fn := Try.f50) (t := 4) e rfl rfl ?_
      exact ⟨rfl, s.mono fun _ => Sat.dropN 0⟩
    · replace hm := cond_f hc6 hm
      refine TC.skipk ?_
      refine TC.k ?_
      refine TC.region ?_
      refine TO.s rfl rfl rfl (StepS.assign rfl) ?_
      refine TO.code ?_
      cases hm
      refine TC.ret fun a w e s => ?_
      refine FRet.mk1 (P := Try.prog) (fn := Try.f50) (t := 4) e rfl rfl ?_
      exact ⟨rfl, s.mono fun _ => Sat.dropN 0⟩
  · replace hm := cond_f hc5 hm
    refine TC.skipk ?_
    refine TC.k ?_
    refine TC.k ?_
    refine TC.region ?_
    refine TO.s rfl rfl rfl (StepS.move rfl) ?_
    refine TO.code ?_
    refine TC.cond rfl (fun hc7 => ?_) (fun hc7 => ?_)
    · replace hm := cond_t hc7 hm
      refine TC.k ?_
      refine TC.region ?_
      refine TO.s rfl rfl rfl (StepS.assign rfl) ?_
      refine TO.code ?_
      cases hm
      refine TC.ret fun a w e s => ?_
      refine FRet.mk1 (P := Try.prog) (fn := Try.f50) (t := 4) e rfl rfl ?_
      exact ⟨rfl, s.mono fun _ => Sat.dropN 0⟩
    · replace hm := cond_f hc7 hm
      refine TC.skipk ?_
      refine TC.k ?_
      refine TC.k ?_
      refine TC.region ?_
      refine TO.s rfl rfl rfl (StepS.move rfl) ?_
      refine TO.s rfl rfl rfl (StepS.move rfl) ?_
      refine TO.s rfl rfl rfl (StepS.cmp rfl rfl rfl) ?_
      refine TO.code ?_
      refine TC.cond rfl (fun hc8 => ?_) (fun hc8 => ?_)
      · replace hm := cond_t hc8 hm
        refine TC.k ?_
        refine TC.region ?_
        refine TO.s rfl rfl rfl (StepS.assign rfl) ?_
        refine TO.code ?_
        cases hm
        refine TC.ret fun a w e s => ?_
        refine FRet.mk1 (P := Try.prog) (fn := Try.f50) (t := 4) e rfl rfl ?_
        exact ⟨rfl, s.mono fun _ => Sat.dropN 0⟩
      · replace hm := cond_f hc8 hm
        refine TC.skipk ?_
        refine TC.k ?_
        refine TC.k ?_
        refine TC.region ?_
        refine TO.s rfl rfl rfl (StepS.move rfl) ?_
        refine TO.s rfl rfl rfl (StepS.move rfl) ?_
        refine TO.s rfl rfl rfl (StepS.cmp rfl rfl rfl) ?_
        refine TO.code ?_
        refine TC.cond rfl (fun hc9 => ?_) (fun hc9 => ?_)
        · replace hm := cond_t hc9 hm
          refine TC.k ?_
          refine TC.region ?_
          refine TO.s rfl rfl rfl (StepS.assign rfl) ?_
          refine TO.code ?_
          cases hm
          refine TC.ret fun a w e s => ?_
          refine FRet.mk1 (P := Try.prog) (fn := Try.f50) (t := 4) e rfl rfl ?_
          exact ⟨rfl, s.mono fun _ => Sat.dropN 0⟩
        · replace hm := cond_f hc9 hm
          refine TC.skipk ?_
          refine TC.k ?_
          refine TC.region ?_
          refine TO.s rfl rfl rfl (StepS.assign rfl) ?_
          refine TO.code ?_
          cases hm
          refine TC.ret fun a w e s => ?_
          refine FRet.mk1 (P := Try.prog) (fn := Try.f50) (t := 4) e rfl rfl ?_
          exact ⟨rfl, s.mono fun _ => Sat.dropN 0⟩

set_option maxRecDepth 100000 in
theorem C49 {B : World} {L : List HP} {a0 : List Int} {h0 : Value} {r0 : Int} (e0 : Ent L (Rd 1 h0 (a0.map cI))) (hm : F49 a0 = some r0) {w : World} (st : St B L w) : Calls Try.prog 49 #[h0] w (fun e w' => (e = .returned (I r0) ∧ St B (L) w')) := by
  refine calls_of (N := 18) (L := L) (args := [h0]) Try.func49 rfl rfl rfl ?_ st
  dsimp only [F49] at hm
  refine TC.k ?_
  refine TC.region ?_
  refine TO.s rfl rfl rfl (StepS.assign rfl) ?_
  refine TO.code ?_
  refine TC.k ?_
  refine TC.region ?_
  refine TO.s rfl rfl rfl (StepS.assign rfl) ?_
  refine TO.code ?_
  refine TC.k ?_
  refine TC.k ?_
  refine TC.region ?_
  refine TO.s rfl rfl rfl (StepS.move rfl) ?_
  refine TO.s rfl rfl rfl (StepS.lenm rfl e0 ksliceB_34_3_1_true rfl) ?_
  refine TO.s rfl rfl rfl (StepS.move rfl) ?_
  refine TO.code ?_
  obtain ⟨o3, hw4, hm⟩ := bind_some hm
  refine TC.loop hw4 (fun x1 => fun a w => Mid 18 B [(3, I 0), (6, h0), (7, I (a0.length : Int)), (8, I x1)] (L) a w) (fun _ => fun a w => Mid 18 B [(3, I 0)] (L) a w) (fun r0 => FRet Try.prog Try.f49 (fun e w' => (e = .returned (I r0) ∧ St B (L) w'))) ?_ ?_ ?_ ?_
  · rintro x1 o3r hb5 a w ⟨he, hs⟩
    dsimp only [F49_L0] at hb5
    refine TC.use ?_ he hs
    refine TC.k ?_
    refine TC.region ?_
    refine TO.s rfl rfl rfl (StepS.cmp rfl rfl rfl) ?_
    refine TO.code ?_
    refine TC.k ?_
    refine TC.cond rfl (fun hc6 => ?_) (fun hc6 => ?_)
    · replace hb5 := cond_t hc6 hb5
      refine TC.skipk ?_
      refine TC.k ?_
      refine TC.block ?_
      refine TC.k ?_
      refine TC.region ?_
      obtain ⟨x7, hx8, hb5⟩ := bind_some hb5
      refine TO.s rfl rfl rfl (StepS.idx rfl rfl e0 ksliceB_34_3_1_true (idx_spec hx8).1 (idxm_lt hx8)) ?_
      refine TO.s rfl rfl rfl (StepS.ld0 rfl e0 kscalB_3_true rfl (idxm hx8) rfl) ?_
      refine TO.s rfl rfl rfl (StepS.assign rfl) ?_
      refine TO.code ?_
      refine TC.k ?_
      refine TC.region ?_
      refine TO.s rfl rfl rfl (StepS.move rfl) ?_
      refine TO.s rfl rfl rfl (StepS.move rfl) ?_
      refine TO.s rfl rfl rfl (StepS.cmp rfl rfl rfl) ?_
      refine TO.code ?_
      refine TC.cond rfl (fun hc9 => ?_) (fun hc9 => ?_)
      · replace hb5 := cond_t hc9 hb5
        refine TC.k ?_
        refine TC.region ?_
        refine TO.s rfl rfl rfl (StepS.move rfl) ?_
        refine TO.s rfl rfl rfl (StepS.assign rfl) ?_
        refine TO.code ?_
        cases hb5
        refine TC.ret fun a w e s => ?_
        refine FRet.mk1 (P := Try.prog) (fn := Try.f49) (t := 2) e rfl rfl ?_
        exact ⟨rfl, s.mono fun _ => Sat.dropN 0⟩
      · replace hb5 := cond_f hc9 hb5
        refine TC.skipk ?_
        refine TC.region ?_
        refine TO.s rfl rfl rfl (StepS.ari rfl rfl rfl) ?_
        refine TO.s rfl rfl rfl (StepS.move rfl) ?_
        cases hb5
        refine TO.nil fun a w e s => ?_
        exact ⟨e.sub (lk_of_allIn ⟨rfl, rfl, rfl, rfl, trivial⟩), s⟩
    · replace hb5 := cond_f hc6 hb5
      cases hb5
      refine TC.exit rfl fun a w e s => ?_
      exact ⟨e.sub (lk_of_allIn ⟨rfl, trivial⟩), s⟩
  · exact fun a w e s => ⟨e.sub (lk_of_allIn ⟨rfl, rfl, rfl, rfl, trivial⟩), s⟩
  · rintro _ rfl a w ⟨he, hs⟩
    dsimp only [Ctl.on] at hm
    refine TC.use ?_ he hs
    refine TC.k ?_
    refine TC.region ?_
    refine TO.s rfl rfl rfl (StepS.move rfl) ?_
    refine TO.s rfl rfl rfl (StepS.assign rfl) ?_
    refine TO.code ?_
    cases hm
    refine TC.ret fun a w e s => ?_
    refine FRet.mk1 (P := Try.prog) (fn := Try.f49) (t := 2) e rfl rfl ?_
    exact ⟨rfl, s.mono fun _ => Sat.dropN 0⟩
  · rintro r rfl
    cases hm
    exact fun a w h => h

set_option maxRecDepth 100000 in
theorem C48 {B : World} {L : List HP} {a0 : Int} {a1 : Int} {a2 : List Int} {a3 : List (Int × Int × Int)} {b2_ : Nat} {h2 : Value} {b3_ : Nat} {h3 : Value} {r0 : Int} (g2 : Ent L (Bx b2_ 34 [h2])) (e2 : Ent L (Rd 1 h2 (a2.map cI))) (g3 : Ent L (Bx b3_ 22 [h3])) (e3 : Ent L (Rd 3 h3 (a3.map cTiii))) (hm : F48 a0 a1 a2 a3 = some r0) {w : World} (st : St B L w) : Calls Try.prog 48 #[I a0, I a1, .pointer (some ⟨b2_, 0, none⟩), .pointer (some ⟨b3_, 0, none⟩)] w (fun e w' => (e = .returned (I r0) ∧ St B (L) w')) := by
  refine calls_of (N := 29) (L := L) (args := [I a0, I a1, .pointer (some ⟨b2_, 0, none⟩), .pointer (some ⟨b3_, 0, none⟩)]) Try.func48 rfl rfl rfl ?_ st
  dsimp only [F48] at hm
  refine TC.k ?_
  refine TC.region ?_
  refine TO.s rfl rfl rfl (StepS.assign rfl) ?_
  refine TO.code ?_
  refine TC.k ?_
  refine TC.region_any (L) 23 23 kfollows_mixedOrders_true rfl ?_
  refine TA.take 0 rfl rfl rfl rfl (StepS.ldB rfl g2 kscalB_34_true rfl) (by kernel_rfl) (by kernel_rfl) (by kernel_rfl) (by kernel_rfl) (by kernel_rfl) (fun _ s => s) ?_
  refine TA.takeW 1 rfl rfl rfl rfl (StepS.move rfl) (by kernel_rfl) (by kernel_rfl) (by kernel_rfl) rfl (.inr (fun _ s => s)) ?_
  obtain ⟨xq1_2_1, hxq1_2_2, hm⟩ := bind_some hm
  refine TA.take 2 rfl rfl rfl rfl (StepS.idx rfl rfl e2 ksliceB_34_3_1_true (idx_spec hxq1_2_2).1 (idxm_lt hxq1_2_2)) (by kernel_rfl) (by kernel_rfl) (by kernel_rfl) (by kernel_rfl) (by kernel_rfl) (fun _ s => s) ?_
  refine TA.take 3 rfl rfl rfl rfl (StepS.ld0 rfl e2 kscalB_3_true rfl (idxm hxq1_2_2) rfl) (by kernel_rfl) (by kernel_rfl) (by kernel_rfl) (by kernel_rfl) (by kernel_rfl) (fun _ s => s) ?_
  refine TA.take 4 rfl rfl rfl rfl (StepS.ldB rfl g2 kscalB_34_true rfl) (by kernel_rfl) (by kernel_rfl) (by kernel_rfl) (by kernel_rfl) (by kernel_rfl) (fun _ s => s) ?_
  refine TA.takeW 5 rfl rfl rfl rfl (StepS.move rfl) (by kernel_rfl) (by kernel_rfl) (by kernel_rfl) rfl (.inr (fun _ s => s)) ?_
  obtain ⟨xq1_6_1, hxq1_6_2, hm⟩ := bind_some hm
  refine TA.take 6 rfl rfl rfl rfl (StepS.idx rfl rfl e2 ksliceB_34_3_1_true (idx_spec hxq1_6_2).1 (idxm_lt hxq1_6_2)) (by kernel_rfl) (by kernel_rfl) (by kernel_rfl) (by kernel_rfl) (by kernel_rfl) (fun _ s => s) ?_
  refine TA.take 7 rfl rfl rfl rfl (StepS.ld0 rfl e2 kscalB_3_true rfl (idxm hxq1_6_2) rfl) (by kernel_rfl) (by kernel_rfl) (by kernel_rfl) (by kernel_rfl) (by kernel_rfl) (fun _ s => s) ?_
  refine TA.take 9 rfl rfl rfl rfl (StepS.ldB rfl g3 kscalB_22_true rfl) (by kernel_rfl) (by kernel_rfl) (by kernel_rfl) (by kernel_rfl) (by kernel_rfl) (fun _ s => s) ?_
  refine TA.takeW 10 rfl rfl rfl rfl (StepS.move rfl) (by kernel_rfl) (by kernel_rfl) (by kernel_rfl) rfl (.inr (fun _ s => s)) ?_
  obtain ⟨xq1_11_1, hxq1_11_2, hm⟩ := bind_some hm
  refine TA.take 11 rfl rfl rfl rfl (StepS.idx rfl rfl e3 ksliceB_22_58_3_true (idx_spec hxq1_11_2).1 (idxm_lt hxq1_11_2)) (by kernel_rfl) (by kernel_rfl) (by kernel_rfl) (by kernel_rfl) (by kernel_rfl) (fun _ s => s) ?_
  refine TA.takeW 12 rfl rfl rfl rfl (StepS.ptrf rfl kfieldB_58_0_0_true) (by kernel_rfl) (by kernel_rfl) (by kernel_rfl) rfl (.inr (fun _ s => s)) ?_
  refine TA.take 13 rfl rfl rfl rfl (StepS.ld1 rfl e3 kscalB_3_true rfl (idxm hxq1_11_2) rfl) (by kernel_rfl) (by kernel_rfl) (by kernel_rfl) (by kernel_rfl) (by kernel_rfl) (fun _ s => s) ?_
  refine TA.take 14 rfl rfl rfl rfl (StepS.ldB rfl g3 kscalB_22_true rfl) (by kernel_rfl) (by kernel_rfl) (by kernel_rfl) (by kernel_rfl) (by kernel_rfl) (fun _ s => s) ?_
  refine TA.takeW 15 rfl rfl rfl rfl (StepS.move rfl) (by kernel_rfl) (by kernel_rfl) (by kernel_rfl) rfl (.inr (fun _ s => s)) ?_
  obtain ⟨xq1_16_1, hxq1_16_2, hm⟩ := bind_some hm
  refine TA.take 16 rfl rfl rfl rfl (StepS.idx rfl rfl e3 ksliceB_22_58_3_true (idx_spec hxq1_16_2).1 (idxm_lt hxq1_16_2)) (by kernel_rfl) (by kernel_rfl) (by kernel_rfl) (by kernel_rfl) (by kernel_rfl) (fun _ s => s) ?_
  refine TA.takeW 17 rfl rfl rfl rfl (StepS.ptrf rfl kfieldB_58_0_0_true) (by kernel_rfl) (by kernel_rfl) (by kernel_rfl) rfl (.inr (fun _ s => s)) ?_
  refine TA.take 18 rfl rfl rfl rfl (StepS.ld1 rfl e3 kscalB_3_true rfl (idxm hxq1_16_2) rfl) (by kernel_rfl) (by kernel_rfl) (by kernel_rfl) (by kernel_rfl) (by kernel_rfl) (fun _ s => s) ?_
  refine TA.all1 (i := 8) (by kernel_rfl) ?_
  refine TB.of rfl ?_
  obtain ⟨rq1_8_1, hcq1_8_2, hm⟩ := bind_some hm
  refine TO.q rfl rfl rfl (StepQ.call kcallB_50_true rfl rfl (fun _ st => C50  hcq1_8_2 st)) ?_
  refine TA.back (.inr (fun _ s => s)) ?_
  refine TA.asL (L' := (L)) (listed' := #[true, true, true, true, true, true, true, true, true, true, true, true, true, true, true, true, true, true, true, false, false, false, false]) (by kernel_rfl) (by kernel_rfl) ?_
  refine TA.all1 (i := 19) (by kernel_rfl) ?_
  refine TB.of rfl ?_
  obtain ⟨rq1_19_1, hcq1_19_2, hm⟩ := bind_some hm
  refine TO.q rfl rfl rfl (StepQ.call kcallB_50_true rfl rfl (fun _ st => C50  hcq1_19_2 st)) ?_
  refine TA.back (.inr (fun _ s => s)) ?_
  refine TA.asL (L' := (L)) (listed' := #[true, true, true, true, true, true, true, true, true, true, true, true, true, true, true, true, true, true, true, true, false, false, false]) (by kernel_rfl) (by kernel_rfl) ?_
  refine TA.all1 (i := 20) (by kernel_rfl) ?_
  refine TB.of rfl ?_
  refine TO.litS (f := cI) ([rq1_8_1, rq1_19_1] : List Int) kelemB_34_3_1_8_true kinfo_3_bind_zero_some_I_0 rfl rfl (fun _ => rfl) rfl rfl (by kernel_rfl) rfl fun vq1_20_1 => ?_
  refine TA.back (.inr (fun _ s => Sat.by [] 0 1 (by kernel_rfl) s)) ?_
  refine TA.asL (L' := (OwnS 3 1 vq1_20_1 (([rq1_8_1, rq1_19_1] : List Int).map cI) :: L)) (listed' := #[true, true, true, true, true, true, true, true, true, true, true, true, true, true, true, true, true, true, true, true, true, false, false]) (by kernel_rfl) (by kernel_rfl) ?_
  refine TA.all1 (i := 21) (by kernel_rfl) ?_
  refine TB.of rfl ?_
  obtain ⟨rq1_21_1, hcq1_21_2, hm⟩ := bind_some hm
  refine TO.q rfl rfl rfl (StepQ.call kcallB_49_true rfl rfl (fun _ st => C49 (OwnS.rd (Ent.at 0 rfl)) hcq1_21_2 st)) ?_
  refine TA.back (.inr (fun _ s => Sat.by [] 0 1 (by kernel_rfl) s)) ?_
  refine TA.asL (L' := (OwnS 3 1 vq1_20_1 (([rq1_8_1, rq1_19_1] : List Int).map cI) :: L)) (listed' := #[true, true, true, true, true, true, true, true, true, true, true, true, true, true, true, true, true, true, true, true, true, true, false]) (by kernel_rfl) (by kernel_rfl) ?_
  refine TA.takeW 22 rfl rfl rfl rfl (StepS.assign rfl) (by kernel_rfl) (by kernel_rfl) (by kernel_rfl) rfl (.inr (fun _ s => Sat.by [] 0 1 (by kernel_rfl) s)) ?_
  refine TA.code (by kernel_rfl) ?_
  cases hm
  refine TC.ret fun a w e s => ?_
  refine FRet.mk1 (P := Try.prog) (fn := Try.f48) (t := 6) e rfl rfl ?_
  exact ⟨rfl, s.mono fun _ => Sat.dropN 1⟩

set_option maxRecDepth 100000 in
theorem C37 {B : World} {L : List HP} {a0 : Int} {a1 : List (Int × Int × Int)} {h1 : Value} {r0 : List Int} {r1 : Int} (e1 : Ent L (Rd 3 h1 (a1.map cTiii))) (hm : F37 a0 a1 = some (r0, r1)) {w : World} (st : St B L w) : Calls Try.prog 37 #[I a0, h1] w (fun e w' => ∃ v M, e = .returned v ∧ (∃ (qv1 : Value), v = .tuple #[qv1, I r1] ∧ M = (OwnS 3 1 qv1 (r0.map cI) :: L)) ∧ St B M w') := by
  refine calls_of (N := 33) (L := L) (args := [I a0, h1]) Try.func37 rfl rfl rfl ?_ st
  dsimp only [F37] at hm
  refine TC.k ?_
  refine TC.region ?_
  refine TO.boxS rfl e1 rfl fun b2 => ?_
  refine TO.s rfl rfl rfl (StepS.assign rfl) ?_
  refine TO.s rfl rfl rfl (StepS.assign rfl) ?_
  refine TO.code ?_
  refine TC.k ?_
  refine TC.k ?_
  refine TC.region ?_
  refine TO.s rfl rfl rfl (StepS.move rfl) ?_
  refine TO.s rfl rfl rfl (StepS.ldB rfl (Ent.at 0 rfl) kscalB_22_true rfl) ?_
  obtain ⟨r3, hc4, hm⟩ := bind_some hm
  refine TO.q rfl rfl rfl (StepQ.call kcallB_15_true rfl rfl (fun _ st => C15 e1.tl hc4 st)) ?_
  refine TO.s rfl rfl rfl (StepS.assign rfl) ?_
  refine TO.code ?_
  refine TC.k ?_
  refine TC.region ?_
  refine TO.s rfl rfl rfl (StepS.move rfl) ?_
  refine TO.s rfl rfl rfl (StepS.cmp rfl rfl rfl) ?_
  refine TO.code ?_
  refine TC.cond rfl (fun hc5 => ?_) (fun hc5 => ?_)
  · replace hm := cond_t hc5 hm
    refine TC.k ?_
    refine TC.region ?_
    refine TO.s rfl rfl rfl (StepS.move rfl) ?_
    refine TO.s rfl rfl rfl (StepS.assign rfl) ?_
    refine TO.s rfl rfl rfl (StepS.assign rfl) ?_
    refine TO.code ?_
    cases hm
    refine TC.ret fun a w e s => ?_
    refine FRet.mk2 (P := Try.prog) (fn := Try.f37) (t := 4) (u := 5) e rfl rfl rfl ?_
    refine ⟨_, _, rfl, ⟨(.slice none 0 0), rfl, rfl⟩, ?_⟩
    refine s.mono fun _ s => ?_
    replace s := Sat.nilS (e := 3) (sz := 1) (f := cI) s
    replace s := Sat.erase 1 s
    exact s
  · replace hm := cond_f hc5 hm
    refine TC.skipk ?_
    refine TC.k ?_
    refine TC.region ?_
    refine TO.s rfl rfl rfl (StepS.move rfl) ?_
    refine TO.s rfl rfl rfl (StepS.ldB rfl (Ent.at 0 rfl) kscalB_22_true rfl) ?_
    obtain ⟨r6, hc7, hm⟩ := bind_some hm
    refine TO.callO kcallB_42_true rfl rfl rfl (fun _ st => C42 e1.tl hc7 st) ?_
    rintro v8 _ ⟨_, rfl, rfl⟩
    refine TO.alloc kinfo_34_bind_zero_some_slice_none_0_0 rfl rfl fun b10 => ?_
    refine TO.pure (fun _ s => Rd.one (OwnS.rd (Ent.at 1 rfl)) s) fun oc11 => ?_
    refine TO.stB (us := [v8]) 0 [v8] rfl rfl rfl ksizeB_34_1_true oc11.2 rfl rfl (by intro u hu; simp only [List.mem_cons, List.not_mem_nil, or_false] at hu; rcases hu with rfl <;> first | exact oc11.1 | rfl) rfl ?_
    refine TO.code ?_
    refine TC.k ?_
    refine TC.region ?_
    refine TO.s rfl rfl rfl (StepS.assign rfl) ?_
    refine TO.code ?_
    refine TC.k ?_
    refine TC.k ?_
    refine TC.region ?_
    refine TO.s rfl rfl rfl (StepS.ldB rfl (Ent.at 2 rfl) kscalB_22_true rfl) ?_
    refine TO.s rfl rfl rfl (StepS.lenm rfl e1.tl.tl.tl ksliceB_22_58_3_true rfl) ?_
    refine TO.s rfl rfl rfl (StepS.move rfl) ?_
    refine TO.code ?_
    obtain ⟨o23, hw24, hm⟩ := bind_some hm
    refine TC.loop hw24 (fun (y14, x15) => fun a w => ∃ v12 : Value, Mid 33 B [(3, .pointer (some ⟨b2, 0, none⟩)), (7, .pointer (some ⟨b10, 0, none⟩)), (8, v12), (20, I (a1.length : Int)), (21, I x15)] (OwnS 3 1 v12 (y14.map cI) :: Bx b10 34 [v8] :: OwnS 3 1 v8 (r6.map cI) :: Bx b2 22 [h1] :: L) a w) (fun y22 => fun a w => ∃ v20 : Value, Mid 33 B [(3, .pointer (some ⟨b2, 0, none⟩)), (7, .pointer (some ⟨b10, 0, none⟩)), (8, v20)] (OwnS 3 1 v20 (y22.map cI) :: Bx b10 34 [v8] :: OwnS 3 1 v8 (r6.map cI) :: Bx b2 22 [h1] :: L) a w) (fun (_ : Unit) _ _ => False) ?_ ?_ ?_ ?_
    · rintro ⟨y14, x15⟩ o23r hb25 a w ⟨v12, he, hs⟩
      dsimp only [F37_L0] at hb25
      refine TC.use ?_ he hs
      refine TC.k ?_
      refine TC.region ?_
      refine TO.s rfl rfl rfl (StepS.cmp rfl rfl rfl) ?_
      refine TO.code ?_
      refine TC.k ?_
      refine TC.cond rfl (fun hc26 => ?_) (fun hc26 => ?_)
      · replace hb25 := cond_t hc26 hb25
        refine TC.skipk ?_
        refine TC.k ?_
        refine TC.block ?_
        refine TC.k ?_
        refine TC.region ?_
        refine TO.s rfl rfl rfl (StepS.move rfl) ?_
        refine TO.s rfl rfl rfl (StepS.assign rfl) ?_
        refine TO.code ?_
        refine TC.region ?_
        refine TO.s rfl rfl rfl (StepS.move rfl) ?_
        refine TO.s rfl rfl rfl (StepS.move rfl) ?_
        refine TO.litS (f := cI) ([x15] : List Int) kelemB_34_3_1_8_true kinfo_3_bind_zero_some_I_0 rfl rfl (fun _ => rfl) rfl rfl (by kernel_rfl) rfl fun v27 => ?_
        obtain ⟨y29, hk30, hb25⟩ := bind_some hb25
        refine TO.app (k := 1) (f := cI) kelemB_34_3_1_8_true (by decide) rfl rfl rfl (OwnS.rd (Ent.at 0 rfl)) hk30 (fun x c hc => by simp [Value.oneCell'] at hc ⊢; first | (obtain rfl := hc; rfl) | (rcases hc with rfl <;> rfl)) rfl rfl fun v31 => ?_
        refine TO.s rfl rfl rfl (StepS.assign rfl) ?_
        refine TO.code ?_
        refine TC.region ?_
        refine TO.s rfl rfl rfl (StepS.ari rfl rfl rfl) ?_
        refine TO.s rfl rfl rfl (StepS.move rfl) ?_
        cases hb25
        refine TO.nil fun a w e s => ?_
        exact ⟨v31, e.sub (lk_of_allIn ⟨rfl, rfl, rfl, rfl, rfl, trivial⟩), s.mono fun _ => Sat.dropN 1⟩
      · replace hb25 := cond_f hc26 hb25
        cases hb25
        refine TC.exit rfl fun a w e s => ?_
        exact ⟨v12, e.sub (lk_of_allIn ⟨rfl, rfl, rfl, trivial⟩), s⟩
    · exact fun a w e s => ⟨.slice none 0 0, e.sub (lk_of_allIn ⟨rfl, rfl, rfl, rfl, rfl, trivial⟩), s.mono fun _ s => (by replace s := Sat.nilS (e := 3) (sz := 1) (f := cI) s; exact Sat.by [3, 3, 3, 3] 4 0 (by kernel_rfl) s)⟩
    · rintro y22 rfl a w ⟨v20, he, hs⟩
      dsimp only [Ctl.on] at hm
      refine TC.use ?_ he hs
      refine TC.k ?_
      refine TC.region ?_
      refine TO.s rfl rfl rfl (StepS.move rfl) ?_
      refine TO.s rfl rfl rfl (StepS.mkfn rfl) ?_
      obtain ⟨y32, hs33, hm⟩ := bind_some hm
      refine TO.sortFO 0 (fun z => F48 z.1 z.2 r6 a1) kcallB_47_true sflay hs33 kcallB_48_true rfl rfl rfl rfl (fun _ _ hE x y r hm w st => C48 (hE _ (Ent.at 0 rfl)) (hE _ (OwnS.rd (Ent.at 1 rfl))) (hE _ (Ent.at 2 rfl)) (hE _ e1.tl.tl.tl) hm st) rfl ?_
      refine TO.code ?_
      refine TC.k ?_
      refine TC.region ?_
      refine TO.s rfl rfl rfl (StepS.move rfl) ?_
      refine TO.s rfl rfl rfl (StepS.assign rfl) ?_
      refine TO.s rfl rfl rfl (StepS.assign rfl) ?_
      refine TO.code ?_
      cases hm
      refine TC.ret fun a w e s => ?_
      refine FRet.mk2 (P := Try.prog) (fn := Try.f37) (t := 4) (u := 5) e rfl rfl rfl ?_
      refine ⟨_, _, rfl, ⟨(v20), rfl, rfl⟩, ?_⟩
      refine s.mono fun _ s => ?_
      replace s := Sat.front 0 rfl s
      replace s := Sat.erase 1 s
      replace s := Sat.erase 1 s
      replace s := Sat.erase 1 s
      exact s
    · rintro r rfl
      exact fun a w h => h.elim

set_option maxRecDepth 100000 in
theorem C38 {B : World} {L : List HP} {a0 : List (Int × Int × Int)} {h0 : Value} {r0 : List Int} (e0 : Ent L (Rd 3 h0 (a0.map cTiii))) (hm : F38 a0 = some r0) {w : World} (st : St B L w) : Calls Try.prog 38 #[h0] w (fun e w' => ∃ v M, e = .returned v ∧ (∃ (qv1 : Value), v = qv1 ∧ M = (OwnS 3 1 qv1 (r0.map cI) :: L)) ∧ St B M w') := by
  refine calls_of (N := 65) (L := L) (args := [h0]) Try.func38 rfl rfl rfl ?_ st
  dsimp only [F38] at hm
  refine TC.k ?_
  refine TC.region ?_
  refine TO.s rfl rfl rfl (StepS.assign rfl) ?_
  refine TO.code ?_
  refine TC.k ?_
  refine TC.region ?_
  refine TO.s rfl rfl rfl (StepS.move rfl) ?_
  obtain ⟨r2, hc3, hm⟩ := bind_some hm
  refine TO.callO kcallB_25_true rfl rfl rfl (fun _ st => C25 e0 hc3 st) ?_
  rintro v4 _ ⟨_, rfl, rfl⟩
  refine TO.s rfl rfl rfl (StepS.assign rfl) ?_
  refine TO.code ?_
  refine TC.k ?_
  refine TC.region ?_
  refine TO.s rfl rfl rfl (StepS.move rfl) ?_
  refine TO.s rfl rfl rfl (StepS.lenm rfl e0.tl ksliceB_22_58_3_true rfl) ?_
  obtain ⟨y6, hk7, hm⟩ := bind_some hm
  refine TO.mkS (f := cI) (za := 0) kelemB_34_3_1_8_true kinfo_3_bind_zero_some_I_0 rfl (by decide) rfl rfl hk7 rfl fun v8 => ?_
  refine TO.s rfl rfl rfl (StepS.assign rfl) ?_
  refine TO.code ?_
  refine TC.k ?_
  refine TC.k ?_
  refine TC.region ?_
  refine TO.s rfl rfl rfl (StepS.assign rfl) ?_
  refine TO.code ?_
  obtain ⟨o15, hw16, hm⟩ := bind_some hm
  refine TC.loop hw16 (fun (y10, x11) => fun a w => Mid 65 B [(0, h0), (3, v4), (4, v8), (5, I x11)] (OwnS 3 1 v8 (y10.map cI) :: OwnS 3 1 v4 (r2.map cI) :: L) a w) (fun y14 => fun a w => Mid 65 B [(4, v8)] (OwnS 3 1 v8 (y14.map cI) :: OwnS 3 1 v4 (r2.map cI) :: L) a w) (fun (_ : Unit) _ _ => False) ?_ ?_ ?_ ?_
  · rintro ⟨y10, x11⟩ o15r hb17 a w ⟨he, hs⟩
    dsimp only [F38_L0] at hb17
    refine TC.use ?_ he hs
    refine TC.k ?_
    refine TC.k ?_
    refine TC.region ?_
    refine TO.s rfl rfl rfl (StepS.move rfl) ?_
    refine TO.s rfl rfl rfl (StepS.move rfl) ?_
    refine TO.s rfl rfl rfl (StepS.lenm rfl e0.tl.tl ksliceB_22_58_3_true rfl) ?_
    refine TO.s rfl rfl rfl (StepS.cmp rfl rfl rfl) ?_
    refine TO.code ?_
    refine TC.cond rfl (fun hc18 => ?_) (fun hc18 => ?_)
    · replace hb17 := cond_t hc18 hb17
      refine TC.skipk ?_
      refine TC.k ?_
      refine TC.block ?_
      refine TC.k ?_
      refine TC.region ?_
      refine TO.s rfl rfl rfl (StepS.assign rfl) ?_
      refine TO.code ?_
      refine TC.k ?_
      refine TC.k ?_
      refine TC.region ?_
      refine TO.s rfl rfl rfl (StepS.assign rfl) ?_
      refine TO.code ?_
      obtain ⟨o24, hw25, hb17⟩ := bind_some hb17
      refine TC.loop hw25 (fun (x19, x20) => fun a w => Mid 65 B [(0, h0), (3, v4), (4, v8), (5, I x11), (6, I x19), (7, I x20)] (OwnS 3 1 v8 (y10.map cI) :: OwnS 3 1 v4 (r2.map cI) :: L) a w) (fun x23 => fun a w => Mid 65 B [(0, h0), (3, v4), (4, v8), (5, I x11), (6, I x23)] (OwnS 3 1 v8 (y10.map cI) :: OwnS 3 1 v4 (r2.map cI) :: L) a w) (fun (_ : Unit) _ _ => False) ?_ ?_ ?_ ?_
      · rintro ⟨x19, x20⟩ o24r hb26 a w ⟨he, hs⟩
        dsimp only [F38_L1] at hb26
        refine TC.use ?_ he hs
        refine TC.k ?_
        refine TC.k ?_
        refine TC.region ?_
        refine TO.s rfl rfl rfl (StepS.move rfl) ?_
        refine TO.s rfl rfl rfl (StepS.move rfl) ?_
        refine TO.s rfl rfl rfl (StepS.lenm rfl e0.tl.tl ksliceB_22_58_3_true rfl) ?_
        refine TO.s rfl rfl rfl (StepS.cmp rfl rfl rfl) ?_
        refine TO.code ?_
        refine TC.cond rfl (fun hc27 => ?_) (fun hc27 => ?_)
        · replace hb26 := cond_t hc27 hb26
          refine TC.skipk ?_
          refine TC.k ?_
          obtain ⟨x28, hj29, hb26⟩ := bind_some hb26
          first | refine TC.cutM (fun a w => Mid 65 B [(0, h0), (3, v4), (4, v8), (5, I x11), (6, I x28), (7, I x20)] (OwnS 3 1 v8 (y10.map cI) :: OwnS 3 1 v4 (r2.map cI) :: L) a w) ?_ ?_ | refine TC.cutX (fun a w => Mid 65 B [(0, h0), (3, v4), (4, v8), (5, I x11), (6, I x28), (7, I x20)] (OwnS 3 1 v8 (y10.map cI) :: OwnS 3 1 v4 (r2.map cI) :: L) a w) ?_ ?_
          · refine TC.block ?_
            refine TC.k ?_
            refine TC.region_still kfollows_mixedOrders_true (by kernel_rfl) ?_
            refine TS.s rfl rfl rfl (StepS.move rfl) ?_
            refine TS.s rfl rfl rfl (StepS.move rfl) ?_
            obtain ⟨x30, hx31, hj29⟩ := bind_some hj29
            refine TS.s rfl rfl rfl (StepS.idx rfl rfl (OwnS.rd (Ent.at 1 rfl)) ksliceB_34_3_1_true (idx_spec hx31).1 (idxm_lt hx31)) ?_
            refine TS.s rfl rfl rfl (StepS.ld0 rfl (OwnS.rd (Ent.at 1 rfl)) kscalB_3_true rfl (idxm hx31) rfl) ?_
            refine TS.s rfl rfl rfl (StepS.move rfl) ?_
            refine TS.s rfl rfl rfl (StepS.move rfl) ?_
            obtain ⟨x32, hx33, hj29⟩ := bind_some hj29
            refine TS.s rfl rfl rfl (StepS.idx rfl rfl (OwnS.rd (Ent.at 1 rfl)) ksliceB_34_3_1_true (idx_spec hx33).1 (idxm_lt hx33)) ?_
            refine TS.s rfl rfl rfl (StepS.ld0 rfl (OwnS.rd (Ent.at 1 rfl)) kscalB_3_true rfl (idxm hx33) rfl) ?_
            refine TS.s rfl rfl rfl (StepS.cmp rfl rfl rfl) ?_
            refine TS.s rfl rfl rfl (StepS.move rfl) ?_
            obtain ⟨b35, hj36, hj29⟩ := bind_some hj29
            refine TS.mid1 23 57 (.bool b35) ?_ ?_
            · refine bcase ((decide (x30 < x32))) (fun hb34 => ?_) (fun hb34 => ?_)
              · replace hj36 := cond_t hb34 hj36
                cases hj36
                refine TS.skip rfl rfl rfl (skipT hb34) rfl rfl ?_
                refine TS.skip rfl rfl rfl (skipT hb34) rfl rfl ?_
                refine TS.skip rfl rfl rfl (skipT hb34) rfl rfl ?_
                refine TS.skip rfl rfl rfl (skipT hb34) rfl rfl ?_
                refine TS.skip rfl rfl rfl (skipT hb34) rfl rfl ?_
                refine TS.skip rfl rfl rfl (skipT hb34) rfl rfl ?_
                refine TS.skip rfl rfl rfl (skipT hb34) rfl rfl ?_
                refine TS.skip rfl rfl rfl (skipT hb34) rfl rfl ?_
                refine TS.skip rfl rfl rfl (skipT hb34) rfl rfl ?_
                refine TS.skip rfl rfl rfl (skipT hb34) rfl rfl ?_
                refine TS.skip rfl rfl rfl skipU rfl rfl ?_
                refine TS.skip rfl rfl rfl skipU rfl rfl ?_
                refine TS.skip rfl rfl rfl skipU rfl rfl ?_
                refine TS.skip rfl rfl rfl skipU rfl rfl ?_
                refine TS.skip rfl rfl rfl skipU rfl rfl ?_
                refine TS.skip rfl rfl rfl skipU rfl rfl ?_
                refine TS.skip rfl rfl rfl skipU rfl rfl ?_
                refine TS.skip rfl rfl rfl skipU rfl rfl ?_
                refine TS.skip rfl rfl rfl skipU rfl rfl ?_
                refine TS.skip rfl rfl rfl skipU rfl rfl ?_
                refine TS.skip rfl rfl rfl skipU rfl rfl ?_
                refine TS.skip rfl rfl rfl (skipT hb34) rfl rfl ?_
                refine TS.s rfl rfl rfl (StepS.pickT rfl hb34 rfl) ?_
                exact TS.up1 23 0 rfl rfl rfl rfl
              · replace hj36 := cond_f hb34 hj36
                refine TS.sw rfl rfl rfl hb34 rfl rfl (StepS.move rfl) ?_
                refine TS.sw rfl rfl rfl hb34 rfl rfl (StepS.move rfl) ?_
                obtain ⟨x37, hx38, hj36⟩ := bind_some hj36
                refine TS.sw rfl rfl rfl hb34 rfl rfl (StepS.idx rfl rfl (OwnS.rd (Ent.at 1 rfl)) ksliceB_34_3_1_true (idx_spec hx38).1 (idxm_lt hx38)) ?_
                refine TS.sw rfl rfl rfl hb34 rfl rfl (StepS.ld0 rfl (OwnS.rd (Ent.at 1 rfl)) kscalB_3_true rfl (idxm hx38) rfl) ?_
                refine TS.sw rfl rfl rfl hb34 rfl rfl (StepS.move rfl) ?_
                refine TS.sw rfl rfl rfl hb34 rfl rfl (StepS.move rfl) ?_
                obtain ⟨x39, hx40, hj36⟩ := bind_some hj36
                refine TS.sw rfl rfl rfl hb34 rfl rfl (StepS.idx rfl rfl (OwnS.rd (Ent.at 1 rfl)) ksliceB_34_3_1_true (idx_spec hx40).1 (idxm_lt hx40)) ?_
                refine TS.sw rfl rfl rfl hb34 rfl rfl (StepS.ld0 rfl (OwnS.rd (Ent.at 1 rfl)) kscalB_3_true rfl (idxm hx40) rfl) ?_
                refine TS.sw rfl rfl rfl hb34 rfl rfl (StepS.cmp rfl rfl rfl) ?_
                refine TS.sw rfl rfl rfl hb34 rfl rfl (StepS.move rfl) ?_
                obtain ⟨b42, hj43, hj36⟩ := bind_some hj36
                refine TS.mid1 12 56 (.bool b42) ?_ ?_
                · refine bcase ((x37 == x39)) (fun hb41 => ?_) (fun hb41 => ?_)
                  · replace hj43 := cond_t hb41 hj43
                    refine TS.sw rfl rfl rfl hb41 rfl rfl (StepS.move rfl) ?_
                    refine TS.sw rfl rfl rfl hb41 rfl rfl (StepS.move rfl) ?_
                    obtain ⟨x44, hx45, hj43⟩ := bind_some hj43
                    refine TS.sw rfl rfl rfl hb41 rfl rfl (StepS.idx rfl rfl e0.tl.tl ksliceB_22_58_3_true (idx_spec hx45).1 (idxm_lt hx45)) ?_
                    refine TS.sw rfl rfl rfl hb41 rfl rfl (StepS.ptrf rfl kfieldB_58_0_0_true) ?_
                    refine TS.sw rfl rfl rfl hb41 rfl rfl (StepS.ld1 rfl e0.tl.tl kscalB_3_true rfl (idxm hx45) rfl) ?_
                    refine TS.sw rfl rfl rfl hb41 rfl rfl (StepS.move rfl) ?_
                    refine TS.sw rfl rfl rfl hb41 rfl rfl (StepS.move rfl) ?_
                    obtain ⟨x46, hx47, hj43⟩ := bind_some hj43
                    refine TS.sw rfl rfl rfl hb41 rfl rfl (StepS.idx rfl rfl e0.tl.tl ksliceB_22_58_3_true (idx_spec hx47).1 (idxm_lt hx47)) ?_
                    refine TS.sw rfl rfl rfl hb41 rfl rfl (StepS.ptrf rfl kfieldB_58_0_0_true) ?_
                    refine TS.sw rfl rfl rfl hb41 rfl rfl (StepS.ld1 rfl e0.tl.tl kscalB_3_true rfl (idxm hx47) rfl) ?_
                    refine TS.sw rfl rfl rfl hb41 rfl rfl (StepS.cmp rfl rfl rfl) ?_
                    cases hj43
                    refine TS.sw rfl rfl rfl hb34 rfl rfl (StepS.pickT rfl hb41 rfl) ?_
                    exact TS.up1 12 0 rfl rfl rfl rfl
                  · replace hj43 := cond_f hb41 hj43
                    cases hj43
                    refine TS.skip rfl rfl rfl (skipF hb41) rfl rfl ?_
                    refine TS.skip rfl rfl rfl (skipF hb41) rfl rfl ?_
                    refine TS.skip rfl rfl rfl (skipF hb41) rfl rfl ?_
                    refine TS.skip rfl rfl rfl (skipF hb41) rfl rfl ?_
                    refine TS.skip rfl rfl rfl (skipF hb41) rfl rfl ?_
                    refine TS.skip rfl rfl rfl (skipF hb41) rfl rfl ?_
                    refine TS.skip rfl rfl rfl (skipF hb41) rfl rfl ?_
                    refine TS.skip rfl rfl rfl (skipF hb41) rfl rfl ?_
                    refine TS.skip rfl rfl rfl (skipF hb41) rfl rfl ?_
                    refine TS.skip rfl rfl rfl (skipF hb41) rfl rfl ?_
                    refine TS.skip rfl rfl rfl (skipF hb41) rfl rfl ?_
                    refine TS.sw rfl rfl rfl hb34 rfl rfl (StepS.pickF rfl hb41 rfl) ?_
                    exact TS.up1 12 0 rfl rfl rfl rfl
                cases hj36
                refine TS.s rfl rfl rfl (StepS.pickF rfl hb34 rfl) ?_
                exact TS.up1 12 0 rfl rfl rfl rfl
            refine TS.code ?_
            refine TC.cond rfl (fun hc48 => ?_) (fun hc48 => ?_)
            · replace hj29 := cond_t hc48 hj29
              refine TC.region ?_
              refine TO.s rfl rfl rfl (StepS.move rfl) ?_
              refine TO.s rfl rfl rfl (StepS.ari rfl rfl rfl) ?_
              refine TO.s rfl rfl rfl (StepS.assign rfl) ?_
              cases hj29
              refine TO.nil fun a w e s => ?_
              exact ⟨e.sub (lk_of_allIn ⟨rfl, rfl, rfl, rfl, rfl, rfl, trivial⟩), s⟩
            · replace hj29 := cond_f hc48 hj29
              cases hj29
              refine TC.skip fun a w e s => ?_
              exact ⟨e.sub (lk_of_allIn ⟨rfl, rfl, rfl, rfl, rfl, rfl, trivial⟩), s⟩
          · intro a w ⟨he, hs⟩
            refine TC.use ?_ he hs
            refine TC.region ?_
            refine TO.s rfl rfl rfl (StepS.move rfl) ?_
            refine TO.s rfl rfl rfl (StepS.ari rfl rfl rfl) ?_
            refine TO.s rfl rfl rfl (StepS.assign rfl) ?_
            cases hb26
            refine TO.nil fun a w e s => ?_
            exact ⟨e.sub (lk_of_allIn ⟨rfl, rfl, rfl, rfl, rfl, rfl, trivial⟩), s⟩
        · replace hb26 := cond_f hc27 hb26
          cases hb26
          refine TC.exit rfl fun a w e s => ?_
          exact ⟨e.sub (lk_of_allIn ⟨rfl, rfl, rfl, rfl, rfl, trivial⟩), s⟩
      · exact fun a w e s => ⟨e.sub (lk_of_allIn ⟨rfl, rfl, rfl, rfl, rfl, rfl, trivial⟩), s⟩
      · rintro x23 rfl a w ⟨he, hs⟩
        dsimp only [Ctl.on] at hb17
        refine TC.use ?_ he hs
        refine TC.region ?_
        refine TO.s rfl rfl rfl (StepS.move rfl) ?_
        refine TO.s rfl rfl rfl (StepS.move rfl) ?_
        refine TO.s rfl rfl rfl (StepS.move rfl) ?_
        obtain ⟨x49, hx50, hb17⟩ := bind_some hb17
        refine TO.s rfl rfl rfl (StepS.idx rfl rfl (OwnS.rd (Ent.at 0 rfl)) ksliceB_34_3_1_true (idx_spec hx50).1 (idxm_lt hx50)) ?_
        refine TO.stO (i := x23.toNat) (off := 0) (us := [I x11]) 0 x11 rfl rfl rfl ksizeB_3_1_true rfl rfl rfl (idx_spec hx50).2 rfl (by simp [Value.oneCell']) rfl ?_
        refine TO.code ?_
        refine TC.region ?_
        refine TO.s rfl rfl rfl (StepS.move rfl) ?_
        refine TO.s rfl rfl rfl (StepS.ari rfl rfl rfl) ?_
        refine TO.s rfl rfl rfl (StepS.assign rfl) ?_
        cases hb17
        refine TO.nil fun a w e s => ?_
        exact ⟨e.sub (lk_of_allIn ⟨rfl, rfl, rfl, rfl, trivial⟩), s⟩
      · rintro r rfl
        exact fun a w h => h.elim
    · replace hb17 := cond_f hc18 hb17
      cases hb17
      refine TC.exit rfl fun a w e s => ?_
      exact ⟨e.sub (lk_of_allIn ⟨rfl, trivial⟩), s⟩
  · exact fun a w e s => ⟨e.sub (lk_of_allIn ⟨rfl, rfl, rfl, rfl, trivial⟩), s⟩
  · rintro y14 rfl a w ⟨he, hs⟩
    dsimp only [Ctl.on] at hm
    refine TC.use ?_ he hs
    refine TC.k ?_
    refine TC.region ?_
    refine TO.s rfl rfl rfl (StepS.move rfl) ?_
    refine TO.s rfl rfl rfl (StepS.assign rfl) ?_
    refine TO.code ?_
    cases hm
    refine TC.ret fun a w e s => ?_
    refine FRet.mk1 (P := Try.prog) (fn := Try.f38) (t := 2) e rfl rfl ?_
    refine ⟨_, _, rfl, ⟨(v8), rfl, rfl⟩, ?_⟩
    refine s.mono fun _ s => ?_
    replace s := Sat.front 0 rfl s
    replace s := Sat.erase 1 s
    exact s
  · rintro r rfl
    exact fun a w h => h.elim

set_option maxRecDepth 100000 in
theorem C13 {B : World} {L : List HP} {a0 : Int} {a1 : List (Int × Int × Int)} {h1 : Value} {r0 : Bool} (e1 : Ent L (Rd 3 h1 (a1.map cTiii))) (hm : F13 a0 a1 = some r0) {w : World} (st : St B L w) : Calls Try.prog 13 #[I a0, h1] w (fun e w' => (e = .returned (.bool r0) ∧ St B (L) w')) := by
  refine calls_of (N := 35) (L := L) (args := [I a0, h1]) Try.func13 rfl rfl rfl ?_ st
  dsimp only [F13] at hm
  refine TC.k ?_
  refine TC.region ?_
  refine TO.s rfl rfl rfl (StepS.assign rfl) ?_
  refine TO.code ?_
  refine TC.k ?_
  refine TC.region ?_
  refine TO.s rfl rfl rfl (StepS.move rfl) ?_
  refine TO.s rfl rfl rfl (StepS.move rfl) ?_
  obtain ⟨⟨r1, r2⟩, hc3, hm⟩ := bind_some hm
  refine TO.callO kcallB_37_true rfl rfl rfl (fun _ st => C37 e1 hc3 st) ?_
  rintro _ _ ⟨v4, rfl, rfl⟩
  refine TO.s rfl rfl rfl (StepS.move rfl) ?_
  refine TO.s rfl rfl rfl (StepS.extract rfl rfl) ?_
  refine TO.s rfl rfl rfl (StepS.extract rfl rfl) ?_
  refine TO.s rfl rfl rfl (StepS.assign rfl) ?_
  refine TO.s rfl rfl rfl (StepS.assign rfl) ?_
  refine TO.code ?_
  refine TC.k ?_
  refine TC.region ?_
  refine TO.s rfl rfl rfl (StepS.move rfl) ?_
  refine TO.s rfl rfl rfl (StepS.move rfl) ?_
  obtain ⟨r6, hc7, hm⟩ := bind_some hm
  refine TO.q rfl rfl rfl (StepQ.call kcallB_16_true rfl rfl (fun _ st => C16 e1.tl hc7 st)) ?_
  refine TO.s rfl rfl rfl (StepS.assign rfl) ?_
  refine TO.code ?_
  refine TC.k ?_
  refine TC.k ?_
  refine TC.region ?_
  refine TO.s rfl rfl rfl (StepS.move rfl) ?_
  refine TO.s rfl rfl rfl (StepS.cmp rfl rfl rfl) ?_
  refine TO.code ?_
  refine TC.cond rfl (fun hc8 => ?_) (fun hc8 => ?_)
  · replace hm := cond_t hc8 hm
    refine TC.k ?_
    refine TC.region ?_
    refine TO.s rfl rfl rfl (StepS.move rfl) ?_
    refine TO.s rfl rfl rfl (StepS.move rfl) ?_
    refine TO.s rfl rfl rfl (StepS.cmp rfl rfl rfl) ?_
    refine TO.s rfl rfl rfl (StepS.move rfl) ?_
    refine TO.mid1 4 26 (.bool ((r2 == r6) && ((r1.length : Int) == 0))) ?_ ?_
    · refine bcase ((r2 == r6)) (fun hb9 => ?_) (fun hb9 => ?_)
      · refine TO.sw rfl rfl rfl hb9 rfl rfl (StepS.move rfl) ?_
        refine TO.sw rfl rfl rfl hb9 rfl rfl (StepS.lenm rfl (OwnS.rd (Ent.at 0 rfl)) ksliceB_34_3_1_true rfl) ?_
        refine TO.sw rfl rfl rfl hb9 rfl rfl (StepS.cmp rfl rfl rfl) ?_
        refine TO.s rfl rfl rfl (StepS.pickT rfl hb9 rfl) ?_
        exact TO.up1 4 0 rfl rfl (by rw [hb9]; rfl) rfl
      · refine TO.skip rfl rfl rfl (skipF hb9) rfl rfl ?_
        refine TO.skip rfl rfl rfl (skipF hb9) rfl rfl ?_
        refine TO.skip rfl rfl rfl (skipF hb9) rfl rfl ?_
        refine TO.s rfl rfl rfl (StepS.pickF rfl hb9 rfl) ?_
        exact TO.up1 4 0 rfl rfl (by rw [hb9]; rfl) rfl
    refine TO.s rfl rfl rfl (StepS.assign rfl) ?_
    refine TO.code ?_
    cases hm
    refine TC.ret fun a w e s => ?_
    refine FRet.mk1 (P := Try.prog) (fn := Try.f13) (t := 4) e rfl rfl ?_
    exact ⟨rfl, s.mono fun _ => Sat.dropN 1⟩
  · replace hm := cond_f hc8 hm
    refine TC.skipk ?_
    refine TC.k ?_
    refine TC.region ?_
    refine TO.s rfl rfl rfl (StepS.move rfl) ?_
    refine TO.s rfl rfl rfl (StepS.cmp rfl rfl rfl) ?_
    refine TO.s rfl rfl rfl (StepS.move rfl) ?_
    obtain ⟨b11, hj12, hm⟩ := bind_some hm
    refine TO.mid1 5 34 (.bool b11) ?_ ?_
    · refine bcase ((r2 == 0)) (fun hb10 => ?_) (fun hb10 => ?_)
      · replace hj12 := cond_t hb10 hj12
        refine TO.sw rfl rfl rfl hb10 rfl rfl (StepS.move rfl) ?_
        refine TO.sw rfl rfl rfl hb10 rfl rfl (StepS.move rfl) ?_
        obtain ⟨r13, hc14, hj12⟩ := bind_some hj12
        refine TO.callOw rfl rfl hb10 kcallB_38_true rfl rfl rfl (fun _ st => C38 e1.tl hc14 st) ?_
        rintro v15 _ ⟨_, rfl, rfl⟩
        obtain ⟨r17, hc18, hj12⟩ := bind_some hj12
        refine TO.qw rfl rfl rfl hb10 rfl rfl (StepQ.call kcallB_24_true rfl rfl (fun _ st => C24 (OwnS.rd (Ent.at 1 rfl)) (OwnS.rd (Ent.at 0 rfl)) hc18 st)) ?_
        cases hj12
        refine TO.s rfl rfl rfl (StepS.pickT rfl hb10 rfl) ?_
        exact TO.up1 5 1 rfl rfl rfl rfl
      · replace hj12 := cond_f hb10 hj12
        cases hj12
        refine TO.skip rfl rfl rfl (skipF hb10) rfl rfl ?_
        refine TO.skip rfl rfl rfl (skipF hb10) rfl rfl ?_
        refine TO.skip rfl rfl rfl (skipF hb10) rfl rfl ?_
        refine TO.skip rfl rfl rfl (skipF hb10) rfl rfl ?_
        refine TO.s rfl rfl rfl (StepS.pickF rfl hb10 rfl) ?_
        exact TO.up1 5 0 rfl rfl rfl rfl
    refine TO.s rfl rfl rfl (StepS.assign rfl) ?_
    refine TO.code ?_
    cases hm
    refine TC.ret fun a w e s => ?_
    refine FRet.mk1 (P := Try.prog) (fn := Try.f13) (t := 4) e rfl rfl ?_
    exact ⟨rfl, s.mono fun _ => Sat.dropN 1⟩
end Go.Proofs.Ytmfidlalejdikaa
