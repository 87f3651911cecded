/-
  The walks: each Go function returns what its model says. Written by a program (gen.py).
-/
import Derived.Test.YtdjmlbjkendobaaProg
import Derived.KernelRfl
import Derived.Test.YtdjmlbjkendobaaVM
namespace Go.Proofs.Ytdjmlbjkendobaa
open Go Go.Bk
set_option linter.unusedVariables false
theorem ksliceB_22_3_1_true : sliceB Try.prog 22 3 1 = true := by kernel_rfl
theorem kscalB_3_true : scalB Try.prog 3 = true := by kernel_rfl
theorem kcallB_75_true : callB Try.prog 75 = true := by kernel_rfl
theorem kcallB_46_true : callB Try.prog 46 = true := by kernel_rfl
theorem kcallB_47_true : callB Try.prog 47 = true := by kernel_rfl
theorem kelemB_79_22_1_24_true : elemB Try.prog 79 22 1 24 = true := by kernel_rfl
theorem ksliceB_79_22_1_true : sliceB Try.prog 79 22 1 = true := by kernel_rfl
theorem kscalB_22_true : scalB Try.prog 22 = true := by kernel_rfl
theorem kfollows_mixedOrders_true : Try.prog.follows .mixedOrders = true := by kernel_rfl
theorem kcallB_15_true : callB Try.prog 15 = true := by kernel_rfl
theorem kcallB_16_true : callB Try.prog 16 = true := by kernel_rfl
theorem kcallB_17_true : callB Try.prog 17 = true := by kernel_rfl
theorem kunderlying_4_some_bool : Try.prog.underlying 4 = some .bool := by kernel_rfl
theorem kelemB_22_3_1_8_true : elemB Try.prog 22 3 1 8 = true := by kernel_rfl
theorem kcallB_76_true : callB Try.prog 76 = true := by kernel_rfl
theorem ksizeB_3_1_true : sizeB Try.prog 3 1 = true := by kernel_rfl
theorem kcallB_48_true : callB Try.prog 48 = true := by kernel_rfl
theorem kcallB_18_true : callB Try.prog 18 = true := by kernel_rfl

set_option maxRecDepth 100000 in
theorem C75 {B : World} {L : List HP} {a0 : List Int} {h0 : Value} {r0 : Int} (e0 : Ent L (Rd 1 h0 (a0.map cI))) (hm : F75 a0 = some r0) {w : World} (st : St B L w) : Calls Try.prog 75 #[h0] w (fun e w' => (e = .returned (I r0) ∧ St B (L) w')) := by
  refine calls_of (N := 25) (L := L) (args := [h0]) Try.func75 rfl rfl rfl ?_ st
  dsimp only [F75] at hm
  refine TC.k ?_
  refine TC.region ?_
  refine TO.s rfl rfl rfl (StepS.assign rfl) ?_
  refine TO.code ?_
  refine TC.k ?_
  refine TC.k ?_
  refine TC.region ?_
  refine TO.s rfl rfl rfl (StepS.move rfl) ?_
  refine TO.s rfl rfl rfl (StepS.lenm rfl e0 ksliceB_22_3_1_true rfl) ?_
  refine TO.s rfl rfl rfl (StepS.cmp rfl rfl rfl) ?_
  refine TO.code ?_
  refine TC.cond rfl (fun hc1 => ?_) (fun hc1 => ?_)
  · replace hm := cond_t hc1 hm
    refine TC.region ?_
    cases hm
  · replace hm := cond_f hc1 hm
    refine TC.skipk ?_
    refine TC.k ?_
    refine TC.region ?_
    refine TO.s rfl rfl rfl (StepS.move rfl) ?_
    obtain ⟨x2, hx3, hm⟩ := bind_some hm
    refine TO.s rfl rfl rfl (StepS.idx rfl rfl e0 ksliceB_22_3_1_true (idx_spec hx3).1 (idxm_lt hx3)) ?_
    refine TO.s rfl rfl rfl (StepS.ld0 rfl e0 kscalB_3_true rfl (idxm hx3) rfl) ?_
    refine TO.s rfl rfl rfl (StepS.assign rfl) ?_
    refine TO.code ?_
    refine TC.k ?_
    refine TC.k ?_
    refine TC.region ?_
    refine TO.s rfl rfl rfl (StepS.assign rfl) ?_
    refine TO.code ?_
    obtain ⟨o9, hw10, hm⟩ := bind_some hm
    refine TC.loop hw10 (fun (x4, x5) => fun a w => Mid 25 B [(0, h0), (3, I x4), (4, I x5)] (L) a w) (fun x8 => fun a w => Mid 25 B [(3, I x8)] (L) a w) (fun (_ : Unit) _ _ => False) ?_ ?_ ?_ ?_
    · rintro ⟨x4, x5⟩ o9r hb11 a w ⟨he, hs⟩
      dsimp only [F75_L0] at hb11
      refine TC.use ?_ he hs
      refine TC.k ?_
      refine TC.k ?_
      refine TC.region ?_
      refine TO.s rfl rfl rfl (StepS.move rfl) ?_
      refine TO.s rfl rfl rfl (StepS.move rfl) ?_
      refine TO.s rfl rfl rfl (StepS.lenm rfl e0 ksliceB_22_3_1_true rfl) ?_
      refine TO.s rfl rfl rfl (StepS.cmp rfl rfl rfl) ?_
      refine TO.code ?_
      refine TC.cond rfl (fun hc12 => ?_) (fun hc12 => ?_)
      · replace hb11 := cond_t hc12 hb11
        refine TC.skipk ?_
        refine TC.k ?_
        refine TC.block ?_
        refine TC.region ?_
        refine TO.s rfl rfl rfl (StepS.move rfl) ?_
        refine TO.s rfl rfl rfl (StepS.move rfl) ?_
        refine TO.s rfl rfl rfl (StepS.move rfl) ?_
        obtain ⟨x13, hx14, hb11⟩ := bind_some hb11
        refine TO.s rfl rfl rfl (StepS.idx rfl rfl e0 ksliceB_22_3_1_true (idx_spec hx14).1 (idxm_lt hx14)) ?_
        refine TO.s rfl rfl rfl (StepS.ld0 rfl e0 kscalB_3_true rfl (idxm hx14) rfl) ?_
        refine TO.s rfl rfl rfl (StepS.min2 rfl rfl) ?_
        refine TO.s rfl rfl rfl (StepS.assign rfl) ?_
        refine TO.code ?_
        refine TC.region ?_
        refine TO.s rfl rfl rfl (StepS.move rfl) ?_
        refine TO.s rfl rfl rfl (StepS.ari rfl rfl rfl) ?_
        refine TO.s rfl rfl rfl (StepS.assign rfl) ?_
        cases hb11
        refine TO.nil fun a w e s => ?_
        exact ⟨e.sub (lk_of_allIn ⟨rfl, rfl, rfl, trivial⟩), s⟩
      · replace hb11 := cond_f hc12 hb11
        cases hb11
        refine TC.exit rfl fun a w e s => ?_
        exact ⟨e.sub (lk_of_allIn ⟨rfl, trivial⟩), s⟩
    · exact fun a w e s => ⟨e.sub (lk_of_allIn ⟨rfl, rfl, rfl, trivial⟩), s⟩
    · rintro x8 rfl a w ⟨he, hs⟩
      dsimp only [Ctl.on] at hm
      refine TC.use ?_ he hs
      refine TC.k ?_
      refine TC.region ?_
      refine TO.s rfl rfl rfl (StepS.move rfl) ?_
      refine TO.s rfl rfl rfl (StepS.assign rfl) ?_
      refine TO.code ?_
      cases hm
      refine TC.ret fun a w e s => ?_
      refine FRet.mk1 (P := Try.prog) (fn := Try.f75) (t := 2) e rfl rfl ?_
      exact ⟨rfl, s.mono fun _ => Sat.dropN 0⟩
    · rintro r rfl
      exact fun a w h => h.elim

set_option maxRecDepth 100000 in
theorem C46 {B : World} {L : List HP} {a0 : List Int} {a1 : List Int} {h0 : Value} {h1 : Value} {r0 : Int} (e0 : Ent L (Rd 1 h0 (a0.map cI))) (e1 : Ent L (Rd 1 h1 (a1.map cI))) (hm : F46 a0 a1 = some r0) {w : World} (st : St B L w) : Calls Try.prog 46 #[h0, h1] w (fun e w' => (e = .returned (I r0) ∧ St B (L) w')) := by
  refine calls_of (N := 26) (L := L) (args := [h0, h1]) Try.func46 rfl rfl rfl ?_ st
  dsimp only [F46] at hm
  refine TC.k ?_
  refine TC.region ?_
  refine TO.s rfl rfl rfl (StepS.assign rfl) ?_
  refine TO.code ?_
  refine TC.k ?_
  refine TC.k ?_
  refine TC.region ?_
  refine TO.s rfl rfl rfl (StepS.move rfl) ?_
  refine TO.s rfl rfl rfl (StepS.lenm rfl e0 ksliceB_22_3_1_true rfl) ?_
  refine TO.s rfl rfl rfl (StepS.cmp rfl rfl rfl) ?_
  refine TO.s rfl rfl rfl (StepS.move rfl) ?_
  refine TO.mid1 4 12 (.bool ((decide ((a0.length : Int) < 1)) || (decide ((a0.length : Int) > 6)))) ?_ ?_
  · refine bcase ((decide ((a0.length : Int) < 1))) (fun hb1 => ?_) (fun hb1 => ?_)
    · refine TO.skip rfl rfl rfl (skipT hb1) rfl rfl ?_
      refine TO.skip rfl rfl rfl (skipT hb1) rfl rfl ?_
      refine TO.skip rfl rfl rfl (skipT hb1) rfl rfl ?_
      refine TO.s rfl rfl rfl (StepS.pickT rfl hb1 rfl) ?_
      exact TO.up1 4 0 rfl rfl (by rw [hb1]; rfl) rfl
    · refine TO.sw rfl rfl rfl hb1 rfl rfl (StepS.move rfl) ?_
      refine TO.sw rfl rfl rfl hb1 rfl rfl (StepS.lenm rfl e0 ksliceB_22_3_1_true rfl) ?_
      refine TO.sw rfl rfl rfl hb1 rfl rfl (StepS.cmp rfl rfl rfl) ?_
      refine TO.s rfl rfl rfl (StepS.pickF rfl hb1 rfl) ?_
      exact TO.up1 4 0 rfl rfl (by rw [hb1]; rfl) rfl
  refine TO.code ?_
  refine TC.cond rfl (fun hc2 => ?_) (fun hc2 => ?_)
  · replace hm := cond_t hc2 hm
    refine TC.k ?_
    refine TC.region ?_
    refine TO.s rfl rfl rfl (StepS.assign rfl) ?_
    refine TO.code ?_
    cases hm
    refine TC.ret fun a w e s => ?_
    refine FRet.mk1 (P := Try.prog) (fn := Try.f46) (t := 4) e rfl rfl ?_
    exact ⟨rfl, s.mono fun _ => Sat.dropN 0⟩
  · replace hm := cond_f hc2 hm
    refine TC.skipk ?_
    refine TC.k ?_
    refine TC.k ?_
    refine TC.region ?_
    refine TO.s rfl rfl rfl (StepS.move rfl) ?_
    refine TO.s rfl rfl rfl (StepS.lenm rfl e1 ksliceB_22_3_1_true rfl) ?_
    refine TO.s rfl rfl rfl (StepS.move rfl) ?_
    refine TO.s rfl rfl rfl (StepS.lenm rfl e0 ksliceB_22_3_1_true rfl) ?_
    refine TO.s rfl rfl rfl (StepS.cmp rfl rfl rfl) ?_
    refine TO.code ?_
    refine TC.cond rfl (fun hc3 => ?_) (fun hc3 => ?_)
    · replace hm := cond_t hc3 hm
      refine TC.k ?_
      refine TC.region ?_
      refine TO.s rfl rfl rfl (StepS.assign rfl) ?_
      refine TO.code ?_
      cases hm
      refine TC.ret fun a w e s => ?_
      refine FRet.mk1 (P := Try.prog) (fn := Try.f46) (t := 4) e rfl rfl ?_
      exact ⟨rfl, s.mono fun _ => Sat.dropN 0⟩
    · replace hm := cond_f hc3 hm
      refine TC.skipk ?_
      refine TC.k ?_
      refine TC.k ?_
      refine TC.region ?_
      refine TO.s rfl rfl rfl (StepS.move rfl) ?_
      obtain ⟨r4, hc5, hm⟩ := bind_some hm
      refine TO.q rfl rfl rfl (StepQ.call kcallB_75_true rfl rfl (fun _ st => C75 e0 hc5 st)) ?_
      refine TO.s rfl rfl rfl (StepS.cmp rfl rfl rfl) ?_
      refine TO.s rfl rfl rfl (StepS.move rfl) ?_
      obtain ⟨b7, hj8, hm⟩ := bind_some hm
      refine TO.mid1 4 25 (.bool b7) ?_ ?_
      · refine bcase ((decide (r4 < 0))) (fun hb6 => ?_) (fun hb6 => ?_)
        · replace hj8 := cond_t hb6 hj8
          cases hj8
          refine TO.skip rfl rfl rfl (skipT hb6) rfl rfl ?_
          refine TO.skip rfl rfl rfl (skipT hb6) rfl rfl ?_
          refine TO.skip rfl rfl rfl (skipT hb6) rfl rfl ?_
          refine TO.s rfl rfl rfl (StepS.pickT rfl hb6 rfl) ?_
          exact TO.up1 4 0 rfl rfl rfl rfl
        · replace hj8 := cond_f hb6 hj8
          refine TO.sw rfl rfl rfl hb6 rfl rfl (StepS.move rfl) ?_
          obtain ⟨r9, hc10, hj8⟩ := bind_some hj8
          refine TO.qw rfl rfl rfl hb6 rfl rfl (StepQ.call kcallB_75_true rfl rfl (fun _ st => C75 e1 hc10 st)) ?_
          refine TO.sw rfl rfl rfl hb6 rfl rfl (StepS.cmp rfl rfl rfl) ?_
          cases hj8
          refine TO.s rfl rfl rfl (StepS.pickF rfl hb6 rfl) ?_
          exact TO.up1 4 0 rfl rfl rfl rfl
      refine TO.code ?_
      refine TC.cond rfl (fun hc11 => ?_) (fun hc11 => ?_)
      · replace hm := cond_t hc11 hm
        refine TC.k ?_
        refine TC.region ?_
        refine TO.s rfl rfl rfl (StepS.assign rfl) ?_
        refine TO.code ?_
        cases hm
        refine TC.ret fun a w e s => ?_
        refine FRet.mk1 (P := Try.prog) (fn := Try.f46) (t := 4) e rfl rfl ?_
        exact ⟨rfl, s.mono fun _ => Sat.dropN 0⟩
      · replace hm := cond_f hc11 hm
        refine TC.skipk ?_
        refine TC.k ?_
        refine TC.region ?_
        refine TO.s rfl rfl rfl (StepS.assign rfl) ?_
        refine TO.code ?_
        cases hm
        refine TC.ret fun a w e s => ?_
        refine FRet.mk1 (P := Try.prog) (fn := Try.f46) (t := 4) e rfl rfl ?_
        exact ⟨rfl, s.mono fun _ => Sat.dropN 0⟩

set_option maxRecDepth 100000 in
theorem C47 {B : World} {L : List HP} {a0 : List Int} {a1 : List Int} {h0 : Value} {h1 : Value} {r0 : Bool} (e0 : Ent L (Rd 1 h0 (a0.map cI))) (e1 : Ent L (Rd 1 h1 (a1.map cI))) (hm : F47 a0 a1 = some r0) {w : World} (st : St B L w) : Calls Try.prog 47 #[h0, h1] w (fun e w' => (e = .returned (.bool r0) ∧ St B (L) w')) := by
  refine calls_of (N := 21) (L := L) (args := [h0, h1]) Try.func47 rfl rfl rfl ?_ st
  dsimp only [F47] at hm
  refine TC.k ?_
  refine TC.region ?_
  refine TO.s rfl rfl rfl (StepS.assign rfl) ?_
  refine TO.code ?_
  refine TC.k ?_
  refine TC.k ?_
  refine TC.region ?_
  refine TO.s rfl rfl rfl (StepS.move rfl) ?_
  refine TO.s rfl rfl rfl (StepS.lenm rfl e0 ksliceB_22_3_1_true rfl) ?_
  refine TO.s rfl rfl rfl (StepS.move rfl) ?_
  refine TO.code ?_
  obtain ⟨o3, hw4, hm⟩ := bind_some hm
  refine TC.loop hw4 (fun x1 => fun a w => Mid 21 B [(1, h1), (7, h0), (8, I (a0.length : Int)), (9, I x1)] (L) a w) (fun _ => fun a w => Mid 21 B [] (L) a w) (fun r0 => FRet Try.prog Try.f47 (fun e w' => (e = .returned (.bool r0) ∧ St B (L) w'))) ?_ ?_ ?_ ?_
  · rintro x1 o3r hb5 a w ⟨he, hs⟩
    dsimp only [F47_L0] at hb5
    refine TC.use ?_ he hs
    refine TC.k ?_
    refine TC.region ?_
    refine TO.s rfl rfl rfl (StepS.cmp rfl rfl rfl) ?_
    refine TO.code ?_
    refine TC.k ?_
    refine TC.cond rfl (fun hc6 => ?_) (fun hc6 => ?_)
    · replace hb5 := cond_t hc6 hb5
      refine TC.skipk ?_
      refine TC.k ?_
      refine TC.block ?_
      refine TC.k ?_
      refine TC.region ?_
      refine TO.s rfl rfl rfl (StepS.move rfl) ?_
      obtain ⟨x7, hx8, hb5⟩ := bind_some hb5
      refine TO.s rfl rfl rfl (StepS.idx rfl rfl e0 ksliceB_22_3_1_true (idx_spec hx8).1 (idxm_lt hx8)) ?_
      refine TO.s rfl rfl rfl (StepS.ld0 rfl e0 kscalB_3_true rfl (idxm hx8) rfl) ?_
      refine TO.s rfl rfl rfl (StepS.assign rfl) ?_
      refine TO.s rfl rfl rfl (StepS.assign rfl) ?_
      refine TO.code ?_
      refine TC.k ?_
      refine TC.region ?_
      refine TO.s rfl rfl rfl (StepS.move rfl) ?_
      refine TO.s rfl rfl rfl (StepS.move rfl) ?_
      refine TO.s rfl rfl rfl (StepS.move rfl) ?_
      obtain ⟨x9, hx10, hb5⟩ := bind_some hb5
      refine TO.s rfl rfl rfl (StepS.idx rfl rfl e1 ksliceB_22_3_1_true (idx_spec hx10).1 (idxm_lt hx10)) ?_
      refine TO.s rfl rfl rfl (StepS.ld0 rfl e1 kscalB_3_true rfl (idxm hx10) rfl) ?_
      refine TO.s rfl rfl rfl (StepS.cmp rfl rfl rfl) ?_
      refine TO.code ?_
      refine TC.cond rfl (fun hc11 => ?_) (fun hc11 => ?_)
      · replace hb5 := cond_t hc11 hb5
        refine TC.k ?_
        refine TC.region ?_
        refine TO.s rfl rfl rfl (StepS.assign rfl) ?_
        refine TO.code ?_
        cases hb5
        refine TC.ret fun a w e s => ?_
        refine FRet.mk1 (P := Try.prog) (fn := Try.f47) (t := 4) e rfl rfl ?_
        exact ⟨rfl, s.mono fun _ => Sat.dropN 0⟩
      · replace hb5 := cond_f hc11 hb5
        refine TC.skipk ?_
        refine TC.region ?_
        refine TO.s rfl rfl rfl (StepS.ari rfl rfl rfl) ?_
        refine TO.s rfl rfl rfl (StepS.move rfl) ?_
        cases hb5
        refine TO.nil fun a w e s => ?_
        exact ⟨e.sub (lk_of_allIn ⟨rfl, rfl, rfl, rfl, trivial⟩), s⟩
    · replace hb5 := cond_f hc6 hb5
      cases hb5
      refine TC.exit rfl fun a w e s => ?_
      exact ⟨e.sub (lk_of_allIn trivial), s⟩
  · exact fun a w e s => ⟨e.sub (lk_of_allIn ⟨rfl, rfl, rfl, rfl, trivial⟩), s⟩
  · rintro _ rfl a w ⟨he, hs⟩
    dsimp only [Ctl.on] at hm
    refine TC.use ?_ he hs
    refine TC.k ?_
    refine TC.region ?_
    refine TO.s rfl rfl rfl (StepS.assign rfl) ?_
    refine TO.code ?_
    cases hm
    refine TC.ret fun a w e s => ?_
    refine FRet.mk1 (P := Try.prog) (fn := Try.f47) (t := 4) e rfl rfl ?_
    exact ⟨rfl, s.mono fun _ => Sat.dropN 0⟩
  · rintro r rfl
    cases hm
    exact fun a w h => h

set_option maxRecDepth 100000 in
theorem C15 {B : World} {L : List HP} {a0 : List Int} {a1 : List Int} {h0 : Value} {h1 : Value} {r0 : Bool} {r1 : Int} (e0 : Ent L (Rd 1 h0 (a0.map cI))) (e1 : Ent L (Rd 1 h1 (a1.map cI))) (hm : F15 a0 a1 = some (r0, r1)) {w : World} (st : St B L w) : Calls Try.prog 15 #[h0, h1] w (fun e w' => (e = .returned (.tuple #[.bool r0, I r1]) ∧ St B (L) w')) := by
  refine calls_of (N := 22) (L := L) (args := [h0, h1]) Try.func15 rfl rfl rfl ?_ st
  dsimp only [F15] at hm
  refine TC.k ?_
  refine TC.region ?_
  refine TO.s rfl rfl rfl (StepS.assign rfl) ?_
  refine TO.s rfl rfl rfl (StepS.assign rfl) ?_
  refine TO.code ?_
  refine TC.k ?_
  refine TC.k ?_
  refine TC.region ?_
  refine TO.s rfl rfl rfl (StepS.move rfl) ?_
  refine TO.s rfl rfl rfl (StepS.move rfl) ?_
  obtain ⟨r1, hc2, hm⟩ := bind_some hm
  refine TO.q rfl rfl rfl (StepQ.call kcallB_46_true rfl rfl (fun _ st => C46 e0 e1 hc2 st)) ?_
  refine TO.s rfl rfl rfl (StepS.assign rfl) ?_
  refine TO.code ?_
  refine TC.k ?_
  refine TC.region ?_
  refine TO.s rfl rfl rfl (StepS.move rfl) ?_
  refine TO.s rfl rfl rfl (StepS.cmp rfl rfl rfl) ?_
  refine TO.code ?_
  refine TC.cond rfl (fun hc3 => ?_) (fun hc3 => ?_)
  · replace hm := cond_t hc3 hm
    refine TC.k ?_
    refine TC.region ?_
    refine TO.s rfl rfl rfl (StepS.move rfl) ?_
    refine TO.s rfl rfl rfl (StepS.assign rfl) ?_
    refine TO.s rfl rfl rfl (StepS.assign rfl) ?_
    refine TO.code ?_
    cases hm
    refine TC.ret fun a w e s => ?_
    refine FRet.mk2 (P := Try.prog) (fn := Try.f15) (t := 4) (u := 5) e rfl rfl rfl ?_
    exact ⟨rfl, s.mono fun _ => Sat.dropN 0⟩
  · replace hm := cond_f hc3 hm
    refine TC.skipk ?_
    refine TC.k ?_
    refine TC.region ?_
    refine TO.s rfl rfl rfl (StepS.move rfl) ?_
    refine TO.s rfl rfl rfl (StepS.move rfl) ?_
    obtain ⟨r4, hc5, hm⟩ := bind_some hm
    refine TO.q rfl rfl rfl (StepQ.call kcallB_47_true rfl rfl (fun _ st => C47 e0 e1 hc5 st)) ?_
    refine TO.s rfl rfl rfl (StepS.move rfl) ?_
    obtain ⟨b7, hj8, hm⟩ := bind_some hm
    refine TO.mid1 5 21 (.bool b7) ?_ ?_
    · refine bcase (r4) (fun hb6 => ?_) (fun hb6 => ?_)
      · replace hj8 := cond_t hb6 hj8
        refine TO.sw rfl rfl rfl hb6 rfl rfl (StepS.move rfl) ?_
        refine TO.sw rfl rfl rfl hb6 rfl rfl (StepS.move rfl) ?_
        obtain ⟨r9, hc10, hj8⟩ := bind_some hj8
        refine TO.qw rfl rfl rfl hb6 rfl rfl (StepQ.call kcallB_47_true rfl rfl (fun _ st => C47 e1 e0 hc10 st)) ?_
        refine TO.sw rfl rfl rfl hb6 rfl rfl (StepS.not rfl) ?_
        cases hj8
        refine TO.s rfl rfl rfl (StepS.pickT rfl hb6 rfl) ?_
        exact TO.up1 5 0 rfl rfl rfl rfl
      · replace hj8 := cond_f hb6 hj8
        cases hj8
        refine TO.skip rfl rfl rfl (skipF hb6) rfl rfl ?_
        refine TO.skip rfl rfl rfl (skipF hb6) rfl rfl ?_
        refine TO.skip rfl rfl rfl (skipF hb6) rfl rfl ?_
        refine TO.skip rfl rfl rfl (skipF hb6) rfl rfl ?_
        refine TO.s rfl rfl rfl (StepS.pickF rfl hb6 rfl) ?_
        exact TO.up1 5 0 rfl rfl rfl rfl
    refine TO.s rfl rfl rfl (StepS.assign rfl) ?_
    refine TO.s rfl rfl rfl (StepS.assign rfl) ?_
    refine TO.code ?_
    cases hm
    refine TC.ret fun a w e s => ?_
    refine FRet.mk2 (P := Try.prog) (fn := Try.f15) (t := 4) (u := 5) e rfl rfl rfl ?_
    exact ⟨rfl, s.mono fun _ => Sat.dropN 0⟩

set_option maxRecDepth 100000 in
theorem C16 {B : World} {L : List HP} {a0 : List Int} {a1 : List Int} {h0 : Value} {h1 : Value} {r0 : Int} (e0 : Ent L (Rd 1 h0 (a0.map cI))) (e1 : Ent L (Rd 1 h1 (a1.map cI))) (hm : F16 a0 a1 = some r0) {w : World} (st : St B L w) : Calls Try.prog 16 #[h0, h1] w (fun e w' => (e = .returned (I r0) ∧ St B (L) w')) := by
  refine calls_of (N := 40) (L := L) (args := [h0, h1]) Try.func16 rfl rfl rfl ?_ st
  dsimp only [F16] at hm
  refine TC.k ?_
  refine TC.region ?_
  refine TO.s rfl rfl rfl (StepS.assign rfl) ?_
  refine TO.code ?_
  refine TC.k ?_
  refine TC.k ?_
  refine TC.region ?_
  refine TO.s rfl rfl rfl (StepS.move rfl) ?_
  refine TO.s rfl rfl rfl (StepS.lenm rfl e0 ksliceB_22_3_1_true rfl) ?_
  refine TO.s rfl rfl rfl (StepS.cmp rfl rfl rfl) ?_
  refine TO.s rfl rfl rfl (StepS.move rfl) ?_
  refine TO.mid1 4 16 (.bool ((decide ((a0.length : Int) < 1)) || (decide ((a0.length : Int) > 6)))) ?_ ?_
  · refine bcase ((decide ((a0.length : Int) < 1))) (fun hb1 => ?_) (fun hb1 => ?_)
    · refine TO.skip rfl rfl rfl (skipT hb1) rfl rfl ?_
      refine TO.skip rfl rfl rfl (skipT hb1) rfl rfl ?_
      refine TO.skip rfl rfl rfl (skipT hb1) rfl rfl ?_
      refine TO.s rfl rfl rfl (StepS.pickT rfl hb1 rfl) ?_
      exact TO.up1 4 0 rfl rfl (by rw [hb1]; rfl) rfl
    · refine TO.sw rfl rfl rfl hb1 rfl rfl (StepS.move rfl) ?_
      refine TO.sw rfl rfl rfl hb1 rfl rfl (StepS.lenm rfl e0 ksliceB_22_3_1_true rfl) ?_
      refine TO.sw rfl rfl rfl hb1 rfl rfl (StepS.cmp rfl rfl rfl) ?_
      refine TO.s rfl rfl rfl (StepS.pickF rfl hb1 rfl) ?_
      exact TO.up1 4 0 rfl rfl (by rw [hb1]; rfl) rfl
  refine TO.code ?_
  refine TC.cond rfl (fun hc2 => ?_) (fun hc2 => ?_)
  · replace hm := cond_t hc2 hm
    refine TC.k ?_
    refine TC.region ?_
    refine TO.s rfl rfl rfl (StepS.assign rfl) ?_
    refine TO.code ?_
    cases hm
    refine TC.ret fun a w e s => ?_
    refine FRet.mk1 (P := Try.prog) (fn := Try.f16) (t := 4) e rfl rfl ?_
    exact ⟨rfl, s.mono fun _ => Sat.dropN 0⟩
  · replace hm := cond_f hc2 hm
    refine TC.skipk ?_
    refine TC.k ?_
    refine TC.k ?_
    refine TC.region ?_
    refine TO.s rfl rfl rfl (StepS.move rfl) ?_
    refine TO.s rfl rfl rfl (StepS.lenm rfl e1 ksliceB_22_3_1_true rfl) ?_
    refine TO.s rfl rfl rfl (StepS.move rfl) ?_
    refine TO.s rfl rfl rfl (StepS.lenm rfl e0 ksliceB_22_3_1_true rfl) ?_
    refine TO.s rfl rfl rfl (StepS.cmp rfl rfl rfl) ?_
    refine TO.code ?_
    refine TC.cond rfl (fun hc3 => ?_) (fun hc3 => ?_)
    · replace hm := cond_t hc3 hm
      refine TC.k ?_
      refine TC.region ?_
      refine TO.s rfl rfl rfl (StepS.assign rfl) ?_
      refine TO.code ?_
      cases hm
      refine TC.ret fun a w e s => ?_
      refine FRet.mk1 (P := Try.prog) (fn := Try.f16) (t := 4) e rfl rfl ?_
      exact ⟨rfl, s.mono fun _ => Sat.dropN 0⟩
    · replace hm := cond_f hc3 hm
      refine TC.skipk ?_
      refine TC.k ?_
      refine TC.k ?_
      refine TC.region ?_
      refine TO.s rfl rfl rfl (StepS.move rfl) ?_
      refine TO.s rfl rfl rfl (StepS.move rfl) ?_
      refine TO.lit2H rfl rfl e0 e1 kelemB_79_22_1_24_true rfl fun v4 => ?_
      refine TO.s rfl rfl rfl (StepS.len2H rfl (OwnS.rd (Ent.at 0 rfl)) ksliceB_79_22_1_true rfl) ?_
      refine TO.s rfl rfl rfl (StepS.move rfl) ?_
      refine TO.code ?_
      obtain ⟨o8, hw9, hm⟩ := bind_some hm
      refine TC.loop hw9 (fun x6 => fun a w => Mid 40 B [(24, v4), (25, I 2), (26, I x6)] (OwnS 22 1 v4 ([h0, h1].map hd1) :: L) a w) (fun _ => fun a w => Mid 40 B [] (OwnS 22 1 v4 ([h0, h1].map hd1) :: L) a w) (fun r0 => FRet Try.prog Try.f16 (fun e w' => (e = .returned (I r0) ∧ St B (L) w'))) ?_ ?_ ?_ ?_
      · rintro x6 o8r hb10 a w ⟨he, hs⟩
        dsimp only [F16_L0] at hb10
        refine TC.use ?_ he hs
        refine TC.k ?_
        refine TC.region ?_
        refine TO.s rfl rfl rfl (StepS.cmp rfl rfl rfl) ?_
        refine TO.code ?_
        refine TC.k ?_
        refine TC.cond rfl (fun hc11 => ?_) (fun hc11 => ?_)
        · replace hb10 := cond_t hc11 hb10
          refine TC.skipk ?_
          refine TC.k ?_
          refine TC.block ?_
          refine TC.k ?_
          refine TC.region ?_
          obtain ⟨x12, hx13, hb10⟩ := bind_some hb10
          obtain ⟨hv14, hh15, eh16⟩ := pickH hx13 e0 e1
          refine TO.s rfl rfl rfl (StepS.idx rfl rfl (OwnS.rd (Ent.at 0 rfl)) ksliceB_79_22_1_true (idx_spec hh15).1 (idxm_lt hh15)) ?_
          refine TO.s rfl rfl rfl (StepS.ld0 rfl (OwnS.rd (Ent.at 0 rfl)) kscalB_22_true rfl (idxm (f := hd1) hh15) rfl) ?_
          refine TO.s rfl rfl rfl (StepS.assign rfl) ?_
          refine TO.code ?_
          refine TC.k ?_
          refine TC.region ?_
          refine TO.s rfl rfl rfl (StepS.move rfl) ?_
          refine TO.s rfl rfl rfl (StepS.lenm rfl eh16.tl ksliceB_22_3_1_true rfl) ?_
          refine TO.s rfl rfl rfl (StepS.move rfl) ?_
          refine TO.code ?_
          obtain ⟨o19, hw20, hb10⟩ := bind_some hb10
          refine TC.loop hw20 (fun x17 => fun a w => Mid 40 B [(24, v4), (25, I 2), (26, I x6), (30, hv14), (31, I (x12.length : Int)), (32, I x17)] (OwnS 22 1 v4 ([h0, h1].map hd1) :: L) a w) (fun _ => fun a w => Mid 40 B [(24, v4), (25, I 2), (26, I x6)] (OwnS 22 1 v4 ([h0, h1].map hd1) :: L) a w) (fun r0 => FRet Try.prog Try.f16 (fun e w' => (e = .returned (I r0) ∧ St B (L) w'))) ?_ ?_ ?_ ?_
          · rintro x17 o19r hb21 a w ⟨he, hs⟩
            dsimp only [F16_L1] at hb21
            refine TC.use ?_ he hs
            refine TC.k ?_
            refine TC.region ?_
            refine TO.s rfl rfl rfl (StepS.cmp rfl rfl rfl) ?_
            refine TO.code ?_
            refine TC.k ?_
            refine TC.cond rfl (fun hc22 => ?_) (fun hc22 => ?_)
            · replace hb21 := cond_t hc22 hb21
              refine TC.skipk ?_
              refine TC.k ?_
              refine TC.block ?_
              refine TC.k ?_
              refine TC.region ?_
              obtain ⟨x23, hx24, hb21⟩ := bind_some hb21
              refine TO.s rfl rfl rfl (StepS.idx rfl rfl eh16.tl ksliceB_22_3_1_true (idx_spec hx24).1 (idxm_lt hx24)) ?_
              refine TO.s rfl rfl rfl (StepS.ld0 rfl eh16.tl kscalB_3_true rfl (idxm hx24) rfl) ?_
              refine TO.s rfl rfl rfl (StepS.assign rfl) ?_
              refine TO.code ?_
              refine TC.k ?_
              refine TC.region ?_
              refine TO.s rfl rfl rfl (StepS.move rfl) ?_
              refine TO.s rfl rfl rfl (StepS.cmp rfl rfl rfl) ?_
              refine TO.code ?_
              refine TC.cond rfl (fun hc25 => ?_) (fun hc25 => ?_)
              · replace hb21 := cond_t hc25 hb21
                refine TC.k ?_
                refine TC.region ?_
                refine TO.s rfl rfl rfl (StepS.assign rfl) ?_
                refine TO.code ?_
                cases hb21
                refine TC.ret fun a w e s => ?_
                refine FRet.mk1 (P := Try.prog) (fn := Try.f16) (t := 4) e rfl rfl ?_
                exact ⟨rfl, s.mono fun _ => Sat.dropN 1⟩
              · replace hb21 := cond_f hc25 hb21
                refine TC.skipk ?_
                refine TC.region ?_
                refine TO.s rfl rfl rfl (StepS.ari rfl rfl rfl) ?_
                refine TO.s rfl rfl rfl (StepS.move rfl) ?_
                cases hb21
                refine TO.nil fun a w e s => ?_
                exact ⟨e.sub (lk_of_allIn ⟨rfl, rfl, rfl, rfl, rfl, rfl, trivial⟩), s⟩
            · replace hb21 := cond_f hc22 hb21
              cases hb21
              refine TC.exit rfl fun a w e s => ?_
              exact ⟨e.sub (lk_of_allIn ⟨rfl, rfl, rfl, trivial⟩), s⟩
          · exact fun a w e s => ⟨e.sub (lk_of_allIn ⟨rfl, rfl, rfl, rfl, rfl, rfl, trivial⟩), s⟩
          · rintro _ rfl a w ⟨he, hs⟩
            dsimp only [Ctl.on] at hb10
            refine TC.use ?_ he hs
            refine TC.region ?_
            refine TO.s rfl rfl rfl (StepS.ari rfl rfl rfl) ?_
            refine TO.s rfl rfl rfl (StepS.move rfl) ?_
            cases hb10
            refine TO.nil fun a w e s => ?_
            exact ⟨e.sub (lk_of_allIn ⟨rfl, rfl, rfl, trivial⟩), s⟩
          · rintro r rfl
            cases hb10
            exact fun a w h => h
        · replace hb10 := cond_f hc11 hb10
          cases hb10
          refine TC.exit rfl fun a w e s => ?_
          exact ⟨e.sub (lk_of_allIn trivial), s⟩
      · exact fun a w e s => ⟨e.sub (lk_of_allIn ⟨rfl, rfl, rfl, trivial⟩), s⟩
      · rintro _ rfl a w ⟨he, hs⟩
        dsimp only [Ctl.on] at hm
        refine TC.use ?_ he hs
        refine TC.k ?_
        refine TC.region ?_
        refine TO.s rfl rfl rfl (StepS.assign rfl) ?_
        refine TO.code ?_
        cases hm
        refine TC.ret fun a w e s => ?_
        refine FRet.mk1 (P := Try.prog) (fn := Try.f16) (t := 4) e rfl rfl ?_
        exact ⟨rfl, s.mono fun _ => Sat.dropN 1⟩
      · rintro r rfl
        cases hm
        exact fun a w h => h

set_option maxRecDepth 100000 in
theorem C17 {B : World} {L : List HP} {a0 : List Int} {a1 : List Int} {h0 : Value} {h1 : Value} {r0 : Bool} (e0 : Ent L (Rd 1 h0 (a0.map cI))) (e1 : Ent L (Rd 1 h1 (a1.map cI))) (hm : F17 a0 a1 = some r0) {w : World} (st : St B L w) : Calls Try.prog 17 #[h0, h1] w (fun e w' => (e = .returned (.bool r0) ∧ St B (L) w')) := by
  refine calls_of (N := 35) (L := L) (args := [h0, h1]) Try.func17 rfl rfl rfl ?_ st
  dsimp only [F17] at hm
  refine TC.k ?_
  refine TC.region ?_
  refine TO.s rfl rfl rfl (StepS.assign rfl) ?_
  refine TO.code ?_
  refine TC.k ?_
  refine TC.region ?_
  refine TO.s rfl rfl rfl (StepS.assign rfl) ?_
  refine TO.code ?_
  refine TC.k ?_
  refine TC.k ?_
  refine TC.region ?_
  refine TO.s rfl rfl rfl (StepS.assign rfl) ?_
  refine TO.code ?_
  obtain ⟨o6, hw7, hm⟩ := bind_some hm
  refine TC.loop hw7 (fun (b1, x2) => fun a w => Mid 35 B [(0, h0), (1, h1), (5, .bool b1), (6, I x2)] (L) a w) (fun b5 => fun a w => Mid 35 B [(5, .bool b5)] (L) a w) (fun r0 => FRet Try.prog Try.f17 (fun e w' => (e = .returned (.bool r0) ∧ St B (L) w'))) ?_ ?_ ?_ ?_
  · rintro ⟨b1, x2⟩ o6r hb8 a w ⟨he, hs⟩
    dsimp only [F17_L0] at hb8
    refine TC.use ?_ he hs
    refine TC.k ?_
    refine TC.k ?_
    refine TC.region ?_
    refine TO.s rfl rfl rfl (StepS.move rfl) ?_
    refine TO.s rfl rfl rfl (StepS.move rfl) ?_
    refine TO.s rfl rfl rfl (StepS.lenm rfl e0 ksliceB_22_3_1_true rfl) ?_
    refine TO.s rfl rfl rfl (StepS.cmp rfl rfl rfl) ?_
    refine TO.code ?_
    refine TC.cond rfl (fun hc9 => ?_) (fun hc9 => ?_)
    · replace hb8 := cond_t hc9 hb8
      refine TC.skipk ?_
      refine TC.k ?_
      refine TC.block ?_
      refine TC.k ?_
      refine TC.k ?_
      refine TC.region_still kfollows_mixedOrders_true (by kernel_rfl) ?_
      refine TS.s rfl rfl rfl (StepS.move rfl) ?_
      refine TS.s rfl rfl rfl (StepS.move rfl) ?_
      obtain ⟨x10, hx11, hb8⟩ := bind_some hb8
      refine TS.s rfl rfl rfl (StepS.idx rfl rfl e0 ksliceB_22_3_1_true (idx_spec hx11).1 (idxm_lt hx11)) ?_
      refine TS.s rfl rfl rfl (StepS.ld0 rfl e0 kscalB_3_true rfl (idxm hx11) rfl) ?_
      refine TS.s rfl rfl rfl (StepS.move rfl) ?_
      refine TS.s rfl rfl rfl (StepS.move rfl) ?_
      obtain ⟨x12, hx13, hb8⟩ := bind_some hb8
      refine TS.s rfl rfl rfl (StepS.idx rfl rfl e1 ksliceB_22_3_1_true (idx_spec hx13).1 (idxm_lt hx13)) ?_
      refine TS.s rfl rfl rfl (StepS.ld0 rfl e1 kscalB_3_true rfl (idxm hx13) rfl) ?_
      refine TS.s rfl rfl rfl (StepS.cmp rfl rfl rfl) ?_
      refine TS.code ?_
      refine TC.cond rfl (fun hc14 => ?_) (fun hc14 => ?_)
      · replace hb8 := cond_t hc14 hb8
        refine TC.k ?_
        refine TC.region ?_
        refine TO.s rfl rfl rfl (StepS.assign rfl) ?_
        refine TO.code ?_
        cases hb8
        refine TC.ret fun a w e s => ?_
        refine FRet.mk1 (P := Try.prog) (fn := Try.f17) (t := 4) e rfl rfl ?_
        exact ⟨rfl, s.mono fun _ => Sat.dropN 0⟩
      · replace hb8 := cond_f hc14 hb8
        refine TC.skipk ?_
        refine TC.region_still kfollows_mixedOrders_true (by kernel_rfl) ?_
        refine TS.s rfl rfl rfl (StepS.move rfl) ?_
        refine TS.s rfl rfl rfl (StepS.move rfl) ?_
        obtain ⟨b16, hj17, hb8⟩ := bind_some hb8
        refine TS.mid1 10 33 (.bool b16) ?_ ?_
        · refine bcase (b1) (fun hb15 => ?_) (fun hb15 => ?_)
          · replace hj17 := cond_t hb15 hj17
            cases hj17
            refine TS.skip rfl rfl rfl (skipT hb15) rfl rfl ?_
            refine TS.skip rfl rfl rfl (skipT hb15) rfl rfl ?_
            refine TS.skip rfl rfl rfl (skipT hb15) rfl rfl ?_
            refine TS.skip rfl rfl rfl (skipT hb15) rfl rfl ?_
            refine TS.skip rfl rfl rfl (skipT hb15) rfl rfl ?_
            refine TS.skip rfl rfl rfl (skipT hb15) rfl rfl ?_
            refine TS.skip rfl rfl rfl (skipT hb15) rfl rfl ?_
            refine TS.skip rfl rfl rfl (skipT hb15) rfl rfl ?_
            refine TS.skip rfl rfl rfl (skipT hb15) rfl rfl ?_
            refine TS.s rfl rfl rfl (StepS.pickT rfl hb15 rfl) ?_
            exact TS.up1 10 0 rfl rfl rfl rfl
          · replace hj17 := cond_f hb15 hj17
            refine TS.sw rfl rfl rfl hb15 rfl rfl (StepS.move rfl) ?_
            refine TS.sw rfl rfl rfl hb15 rfl rfl (StepS.move rfl) ?_
            obtain ⟨x18, hx19, hj17⟩ := bind_some hj17
            refine TS.sw rfl rfl rfl hb15 rfl rfl (StepS.idx rfl rfl e0 ksliceB_22_3_1_true (idx_spec hx19).1 (idxm_lt hx19)) ?_
            refine TS.sw rfl rfl rfl hb15 rfl rfl (StepS.ld0 rfl e0 kscalB_3_true rfl (idxm hx19) rfl) ?_
            refine TS.sw rfl rfl rfl hb15 rfl rfl (StepS.move rfl) ?_
            refine TS.sw rfl rfl rfl hb15 rfl rfl (StepS.move rfl) ?_
            obtain ⟨x20, hx21, hj17⟩ := bind_some hj17
            refine TS.sw rfl rfl rfl hb15 rfl rfl (StepS.idx rfl rfl e1 ksliceB_22_3_1_true (idx_spec hx21).1 (idxm_lt hx21)) ?_
            refine TS.sw rfl rfl rfl hb15 rfl rfl (StepS.ld0 rfl e1 kscalB_3_true rfl (idxm hx21) rfl) ?_
            refine TS.sw rfl rfl rfl hb15 rfl rfl (StepS.cmp rfl rfl rfl) ?_
            cases hj17
            refine TS.s rfl rfl rfl (StepS.pickF rfl hb15 rfl) ?_
            exact TS.up1 10 0 rfl rfl rfl rfl
        refine TS.s rfl rfl rfl (StepS.assign rfl) ?_
        refine TS.code ?_
        refine TC.region ?_
        refine TO.s rfl rfl rfl (StepS.move rfl) ?_
        refine TO.s rfl rfl rfl (StepS.ari rfl rfl rfl) ?_
        refine TO.s rfl rfl rfl (StepS.assign rfl) ?_
        cases hb8
        refine TO.nil fun a w e s => ?_
        exact ⟨e.sub (lk_of_allIn ⟨rfl, rfl, rfl, rfl, trivial⟩), s⟩
    · replace hb8 := cond_f hc9 hb8
      cases hb8
      refine TC.exit rfl fun a w e s => ?_
      exact ⟨e.sub (lk_of_allIn ⟨rfl, trivial⟩), s⟩
  · exact fun a w e s => ⟨e.sub (lk_of_allIn ⟨rfl, rfl, rfl, rfl, trivial⟩), s⟩
  · rintro b5 rfl a w ⟨he, hs⟩
    dsimp only [Ctl.on] at hm
    refine TC.use ?_ he hs
    refine TC.k ?_
    refine TC.region ?_
    refine TO.s rfl rfl rfl (StepS.move rfl) ?_
    refine TO.s rfl rfl rfl (StepS.assign rfl) ?_
    refine TO.code ?_
    cases hm
    refine TC.ret fun a w e s => ?_
    refine FRet.mk1 (P := Try.prog) (fn := Try.f17) (t := 4) e rfl rfl ?_
    exact ⟨rfl, s.mono fun _ => Sat.dropN 0⟩
  · rintro r rfl
    cases hm
    exact fun a w h => h

set_option maxRecDepth 100000 in
theorem C3 {B : World} {L : List HP} {a0 : List Int} {a1 : List Int} {h0 : Value} {h1 : Value} {r0 : Bool} (e0 : Ent L (Rd 1 h0 (a0.map cI))) (e1 : Ent L (Rd 1 h1 (a1.map cI))) (hm : F3 a0 a1 = some r0) {w : World} (st : St B L w) : Calls Try.prog 3 #[h0, h1] w (fun e w' => (e = .returned (.bool r0) ∧ St B (L) w')) := by
  refine calls_of (N := 35) (L := L) (args := [h0, h1]) Try.func3 rfl rfl rfl ?_ st
  dsimp only [F3] at hm
  refine TC.k ?_
  refine TC.region ?_
  refine TO.s rfl rfl rfl (StepS.assign rfl) ?_
  refine TO.code ?_
  refine TC.k ?_
  refine TC.region ?_
  refine TO.s rfl rfl rfl (StepS.move rfl) ?_
  refine TO.s rfl rfl rfl (StepS.move rfl) ?_
  obtain ⟨⟨r1, r2⟩, hc3, hm⟩ := bind_some hm
  refine TO.q rfl rfl rfl (StepQ.call kcallB_15_true rfl rfl (fun _ st => C15 e0 e1 hc3 st)) ?_
  refine TO.s rfl rfl rfl (StepS.move rfl) ?_
  refine TO.s rfl rfl rfl (StepS.extract rfl rfl) ?_
  refine TO.s rfl rfl rfl (StepS.extract rfl rfl) ?_
  refine TO.s rfl rfl rfl (StepS.assign rfl) ?_
  refine TO.s rfl rfl rfl (StepS.assign rfl) ?_
  refine TO.code ?_
  refine TC.k ?_
  refine TC.region ?_
  refine TO.s rfl rfl rfl (StepS.move rfl) ?_
  refine TO.s rfl rfl rfl (StepS.move rfl) ?_
  obtain ⟨r4, hc5, hm⟩ := bind_some hm
  refine TO.q rfl rfl rfl (StepQ.call kcallB_16_true rfl rfl (fun _ st => C16 e0 e1 hc5 st)) ?_
  refine TO.s rfl rfl rfl (StepS.assign rfl) ?_
  refine TO.code ?_
  refine TC.k ?_
  refine TC.k ?_
  refine TC.region ?_
  refine TO.s rfl rfl rfl (StepS.move rfl) ?_
  refine TO.s rfl rfl rfl (StepS.cmp rfl rfl rfl) ?_
  refine TO.code ?_
  refine TC.cond rfl (fun hc6 => ?_) (fun hc6 => ?_)
  · replace hm := cond_t hc6 hm
    refine TC.k ?_
    refine TC.region ?_
    refine TO.s rfl rfl rfl (StepS.move rfl) ?_
    refine TO.s rfl rfl rfl (StepS.move rfl) ?_
    refine TO.s rfl rfl rfl (StepS.cmp rfl rfl rfl) ?_
    refine TO.s rfl rfl rfl (StepS.move rfl) ?_
    refine TO.mid1 3 25 (.bool ((r2 == r4) && (!r1))) ?_ ?_
    · refine bcase ((r2 == r4)) (fun hb7 => ?_) (fun hb7 => ?_)
      · refine TO.sw rfl rfl rfl hb7 rfl rfl (StepS.move rfl) ?_
        refine TO.sw rfl rfl rfl hb7 rfl rfl (StepS.not rfl) ?_
        refine TO.s rfl rfl rfl (StepS.pickT rfl hb7 rfl) ?_
        exact TO.up1 3 0 rfl rfl (by rw [hb7]; rfl) rfl
      · refine TO.skip rfl rfl rfl (skipF hb7) rfl rfl ?_
        refine TO.skip rfl rfl rfl (skipF hb7) rfl rfl ?_
        refine TO.s rfl rfl rfl (StepS.pickF rfl hb7 rfl) ?_
        exact TO.up1 3 0 rfl rfl (by rw [hb7]; rfl) rfl
    refine TO.s rfl rfl rfl (StepS.assign rfl) ?_
    refine TO.code ?_
    cases hm
    refine TC.ret fun a w e s => ?_
    refine FRet.mk1 (P := Try.prog) (fn := Try.f3) (t := 4) e rfl rfl ?_
    exact ⟨rfl, s.mono fun _ => Sat.dropN 0⟩
  · replace hm := cond_f hc6 hm
    refine TC.skipk ?_
    refine TC.k ?_
    refine TC.region ?_
    refine TO.s rfl rfl rfl (StepS.move rfl) ?_
    refine TO.s rfl rfl rfl (StepS.cmp rfl rfl rfl) ?_
    refine TO.s rfl rfl rfl (StepS.move rfl) ?_
    obtain ⟨b9, hj10, hm⟩ := bind_some hm
    refine TO.mid1 6 34 (.bool b9) ?_ ?_
    · refine bcase ((r2 == 0)) (fun hb8 => ?_) (fun hb8 => ?_)
      · replace hj10 := cond_t hb8 hj10
        refine TO.sw rfl rfl rfl hb8 rfl rfl (StepS.move rfl) ?_
        refine TO.sw rfl rfl rfl hb8 rfl rfl (StepS.move rfl) ?_
        refine TO.sw rfl rfl rfl hb8 rfl rfl (StepS.move rfl) ?_
        obtain ⟨r11, hc12, hj10⟩ := bind_some hj10
        refine TO.qw rfl rfl rfl hb8 rfl rfl (StepQ.call kcallB_17_true rfl rfl (fun _ st => C17 e0 e1 hc12 st)) ?_
        refine TO.sw rfl rfl rfl hb8 rfl rfl (StepS.eqB kunderlying_4_some_bool rfl rfl) ?_
        cases hj10
        refine TO.s rfl rfl rfl (StepS.pickT rfl hb8 rfl) ?_
        exact TO.up1 6 0 rfl rfl rfl rfl
      · replace hj10 := cond_f hb8 hj10
        cases hj10
        refine TO.skip rfl rfl rfl (skipF hb8) rfl rfl ?_
        refine TO.skip rfl rfl rfl (skipF hb8) rfl rfl ?_
        refine TO.skip rfl rfl rfl (skipF hb8) rfl rfl ?_
        refine TO.skip rfl rfl rfl (skipF hb8) rfl rfl ?_
        refine TO.skip rfl rfl rfl (skipF hb8) rfl rfl ?_
        refine TO.s rfl rfl rfl (StepS.pickF rfl hb8 rfl) ?_
        exact TO.up1 6 0 rfl rfl rfl rfl
    refine TO.s rfl rfl rfl (StepS.assign rfl) ?_
    refine TO.code ?_
    cases hm
    refine TC.ret fun a w e s => ?_
    refine FRet.mk1 (P := Try.prog) (fn := Try.f3) (t := 4) e rfl rfl ?_
    exact ⟨rfl, s.mono fun _ => Sat.dropN 0⟩

set_option maxRecDepth 100000 in
theorem C76 {B : World} {L : List HP} {a0 : List Int} {h0 : Value} {r0 : List Int} (e0 : Ent L (Rd 1 h0 (a0.map cI))) (hm : F76 a0 = some r0) {w : World} (st : St B L w) : Calls Try.prog 76 #[h0] w (fun e w' => ∃ v M, e = .returned v ∧ (∃ (qr0 : Value), v = qr0 ∧ M = (OwnS 3 1 qr0 (r0.map cI) :: L)) ∧ St B M w') := by
  refine calls_of (N := 8) (L := L) (args := [h0]) Try.func76 rfl rfl rfl ?_ st
  dsimp only [F76] at hm
  refine TC.k ?_
  refine TC.region ?_
  refine TO.s rfl rfl rfl (StepS.assign rfl) ?_
  refine TO.code ?_
  refine TC.k ?_
  refine TC.k ?_
  refine TC.region ?_
  refine TO.s rfl rfl rfl (StepS.move rfl) ?_
  refine TO.nilck rfl e0 ksliceB_22_3_1_true rfl fun b hb => ?_
  refine TO.code ?_
  refine TC.cond rfl (fun hc => ?_) (fun hc => ?_)
  · have hn : a0 = [] := by simpa using hb hc
    subst hn
    have hr : r0 = [] := by simpa using (appl_spec hm).2.2
    subst hr
    refine TC.k ?_
    refine TC.region ?_
    refine TO.s rfl rfl rfl (StepS.assign rfl) ?_
    refine TO.code ?_
    refine TC.ret fun a w e s => ?_
    refine FRet.mk1 (P := Try.prog) (fn := Try.f76) (t := 2) e rfl rfl ?_
    exact ⟨_, _, rfl, ⟨_, rfl, rfl⟩, s.mono fun _ s => Sat.nilS s⟩
  · refine TC.skipk ?_
    refine TC.k ?_
    refine TC.region ?_
    refine TO.lit0 (f := cI) ksliceB_22_3_1_true rfl fun v1 => ?_
    refine TO.s rfl rfl rfl (StepS.move rfl) ?_
    refine TO.app (k := 0) (f := cI) kelemB_22_3_1_8_true (by decide) rfl rfl rfl e0.tl hm (fun x c hc => by simp [Value.oneCell'] at hc ⊢; first | (obtain rfl := hc; rfl) | (rcases hc with rfl <;> rfl)) rfl rfl fun v2 => ?_
    refine TO.s rfl rfl rfl (StepS.assign rfl) ?_
    refine TO.code ?_
    refine TC.ret fun a w e s => ?_
    refine FRet.mk1 (P := Try.prog) (fn := Try.f76) (t := 2) e rfl rfl ?_
    exact ⟨_, _, rfl, ⟨_, rfl, rfl⟩, s⟩

set_option maxRecDepth 100000 in
theorem C48 {B : World} {L : List HP} {a0 : List Int} {a1 : List Int} {h0 : Value} {h1 : Value} {r0 : List Int} (e0 : Ent L (Rd 1 h0 (a0.map cI))) (e1 : Ent L (Rd 1 h1 (a1.map cI))) (hm : F48 a0 a1 = some r0) {w : World} (st : St B L w) : Calls Try.prog 48 #[h0, h1] w (fun e w' => ∃ v M, e = .returned v ∧ (∃ (qr0 : Value), v = qr0 ∧ M = (OwnS 3 1 qr0 (r0.map cI) :: L)) ∧ St B M w') := by
  refine calls_of (N := 28) (L := L) (args := [h0, h1]) Try.func48 rfl rfl rfl ?_ st
  dsimp only [F48] at hm
  refine TC.k ?_
  refine TC.region ?_
  refine TO.s rfl rfl rfl (StepS.assign rfl) ?_
  refine TO.code ?_
  refine TC.k ?_
  refine TC.region ?_
  refine TO.s rfl rfl rfl (StepS.move rfl) ?_
  obtain ⟨r1, hc2, hm⟩ := bind_some hm
  refine TO.callO kcallB_76_true rfl rfl rfl (fun _ st => C76 e0 hc2 st) ?_
  rintro v3 _ ⟨_, rfl, rfl⟩
  refine TO.s rfl rfl rfl (StepS.assign rfl) ?_
  refine TO.code ?_
  refine TC.k ?_
  refine TC.k ?_
  refine TC.region ?_
  refine TO.s rfl rfl rfl (StepS.move rfl) ?_
  refine TO.s rfl rfl rfl (StepS.lenm rfl e1.tl ksliceB_22_3_1_true rfl) ?_
  refine TO.s rfl rfl rfl (StepS.move rfl) ?_
  refine TO.code ?_
  obtain ⟨o13, hw14, hm⟩ := bind_some hm
  refine TC.loop hw14 (fun (y5, x7) => fun a w => ∃ v6 : Value, Mid 28 B [(5, v6), (10, h1), (11, I (a1.length : Int)), (12, I x7)] (OwnS 3 1 v6 (y5.map cI) :: L) a w) (fun y11 => fun a w => ∃ v12 : Value, Mid 28 B [(5, v12)] (OwnS 3 1 v12 (y11.map cI) :: L) a w) (fun (_ : Unit) _ _ => False) ?_ ?_ ?_ ?_
  · rintro ⟨y5, x7⟩ o13r hb15 a w ⟨v6, he, hs⟩
    dsimp only [F48_L0] at hb15
    refine TC.use ?_ he hs
    refine TC.k ?_
    refine TC.region ?_
    refine TO.s rfl rfl rfl (StepS.cmp rfl rfl rfl) ?_
    refine TO.code ?_
    refine TC.k ?_
    refine TC.cond rfl (fun hc16 => ?_) (fun hc16 => ?_)
    · replace hb15 := cond_t hc16 hb15
      refine TC.skipk ?_
      refine TC.k ?_
      refine TC.block ?_
      refine TC.k ?_
      refine TC.region ?_
      refine TO.s rfl rfl rfl (StepS.move rfl) ?_
      obtain ⟨x17, hx18, hb15⟩ := bind_some hb15
      refine TO.s rfl rfl rfl (StepS.idx rfl rfl e1.tl ksliceB_22_3_1_true (idx_spec hx18).1 (idxm_lt hx18)) ?_
      refine TO.s rfl rfl rfl (StepS.ld0 rfl e1.tl kscalB_3_true rfl (idxm hx18) rfl) ?_
      refine TO.s rfl rfl rfl (StepS.assign rfl) ?_
      refine TO.s rfl rfl rfl (StepS.assign rfl) ?_
      refine TO.code ?_
      refine TC.region ?_
      refine TO.s rfl rfl rfl (StepS.move rfl) ?_
      refine TO.s rfl rfl rfl (StepS.move rfl) ?_
      refine TO.s rfl rfl rfl (StepS.move rfl) ?_
      refine TO.s rfl rfl rfl (StepS.move rfl) ?_
      obtain ⟨x19, hx20, hb15⟩ := bind_some hb15
      refine TO.s rfl rfl rfl (StepS.idx rfl rfl (OwnS.rd (Ent.at 0 rfl)) ksliceB_22_3_1_true (idx_spec hx20).1 (idxm_lt hx20)) ?_
      refine TO.s rfl rfl rfl (StepS.ld0 rfl (OwnS.rd (Ent.at 0 rfl)) kscalB_3_true rfl (idxm hx20) rfl) ?_
      refine TO.s rfl rfl rfl (StepS.move rfl) ?_
      refine TO.s rfl rfl rfl (StepS.max2 rfl rfl) ?_
      obtain ⟨x21, hx22, hb15⟩ := bind_some hb15
      refine TO.s rfl rfl rfl (StepS.idx rfl rfl (OwnS.rd (Ent.at 0 rfl)) ksliceB_22_3_1_true (idx_spec hx22).1 (idxm_lt hx22)) ?_
      refine TO.stO (i := x7.toNat) (off := 0) (us := [I (mx x19 x17)]) 0 (mx x19 x17) rfl rfl rfl ksizeB_3_1_true rfl rfl rfl (idx_spec hx22).2 rfl (by simp [Value.oneCell']) rfl ?_
      refine TO.code ?_
      refine TC.region ?_
      refine TO.s rfl rfl rfl (StepS.ari rfl rfl rfl) ?_
      refine TO.s rfl rfl rfl (StepS.move rfl) ?_
      cases hb15
      refine TO.nil fun a w e s => ?_
      exact ⟨v6, e.sub (lk_of_allIn ⟨rfl, rfl, rfl, rfl, trivial⟩), s⟩
    · replace hb15 := cond_f hc16 hb15
      cases hb15
      refine TC.exit rfl fun a w e s => ?_
      exact ⟨v6, e.sub (lk_of_allIn ⟨rfl, trivial⟩), s⟩
  · exact fun a w e s => ⟨v3, e.sub (lk_of_allIn ⟨rfl, rfl, rfl, rfl, trivial⟩), s⟩
  · rintro y11 rfl a w ⟨v12, he, hs⟩
    dsimp only [Ctl.on] at hm
    refine TC.use ?_ he hs
    refine TC.k ?_
    refine TC.region ?_
    refine TO.s rfl rfl rfl (StepS.move rfl) ?_
    refine TO.s rfl rfl rfl (StepS.assign rfl) ?_
    refine TO.code ?_
    cases hm
    refine TC.ret fun a w e s => ?_
    refine FRet.mk1 (P := Try.prog) (fn := Try.f48) (t := 4) e rfl rfl ?_
    refine ⟨_, _, rfl, ⟨(v12), rfl, rfl⟩, ?_⟩
    refine s.mono fun _ s => ?_
    replace s := Sat.front 0 rfl s
    exact s
  · rintro r rfl
    exact fun a w h => h.elim

set_option maxRecDepth 100000 in
theorem C18 {B : World} {L : List HP} {a0 : List Int} {a1 : List Int} {h0 : Value} {h1 : Value} {r0 : List Int} {r1 : Int} (e0 : Ent L (Rd 1 h0 (a0.map cI))) (e1 : Ent L (Rd 1 h1 (a1.map cI))) (hm : F18 a0 a1 = some (r0, r1)) {w : World} (st : St B L w) : Calls Try.prog 18 #[h0, h1] w (fun e w' => ∃ v M, e = .returned v ∧ (∃ (qr0 : Value), v = .tuple #[qr0, I r1] ∧ M = (OwnS 3 1 qr0 (r0.map cI) :: L)) ∧ St B M w') := by
  refine calls_of (N := 16) (L := L) (args := [h0, h1]) Try.func18 rfl rfl rfl ?_ st
  dsimp only [F18] at hm
  refine TC.k ?_
  refine TC.region ?_
  refine TO.s rfl rfl rfl (StepS.assign rfl) ?_
  refine TO.s rfl rfl rfl (StepS.assign rfl) ?_
  refine TO.code ?_
  refine TC.k ?_
  refine TC.k ?_
  refine TC.region ?_
  refine TO.s rfl rfl rfl (StepS.move rfl) ?_
  refine TO.s rfl rfl rfl (StepS.move rfl) ?_
  obtain ⟨r1, hc2, hm⟩ := bind_some hm
  refine TO.q rfl rfl rfl (StepQ.call kcallB_46_true rfl rfl (fun _ st => C46 e0 e1 hc2 st)) ?_
  refine TO.s rfl rfl rfl (StepS.assign rfl) ?_
  refine TO.code ?_
  refine TC.k ?_
  refine TC.region ?_
  refine TO.s rfl rfl rfl (StepS.move rfl) ?_
  refine TO.s rfl rfl rfl (StepS.cmp rfl rfl rfl) ?_
  refine TO.code ?_
  refine TC.cond rfl (fun hc3 => ?_) (fun hc3 => ?_)
  · replace hm := cond_t hc3 hm
    refine TC.k ?_
    refine TC.region ?_
    refine TO.s rfl rfl rfl (StepS.move rfl) ?_
    refine TO.s rfl rfl rfl (StepS.assign rfl) ?_
    refine TO.s rfl rfl rfl (StepS.assign rfl) ?_
    refine TO.code ?_
    cases hm
    refine TC.ret fun a w e s => ?_
    refine FRet.mk2 (P := Try.prog) (fn := Try.f18) (t := 4) (u := 5) e rfl rfl rfl ?_
    refine ⟨_, _, rfl, ⟨(.slice none 0 0), rfl, rfl⟩, ?_⟩
    refine s.mono fun _ s => ?_
    replace s := Sat.nilS (e := 3) (sz := 1) (f := cI) s
    exact s
  · replace hm := cond_f hc3 hm
    refine TC.skipk ?_
    refine TC.k ?_
    refine TC.region ?_
    refine TO.s rfl rfl rfl (StepS.move rfl) ?_
    refine TO.s rfl rfl rfl (StepS.move rfl) ?_
    obtain ⟨r4, hc5, hm⟩ := bind_some hm
    refine TO.callO kcallB_48_true rfl rfl rfl (fun _ st => C48 e0 e1 hc5 st) ?_
    rintro v6 _ ⟨_, rfl, rfl⟩
    refine TO.s rfl rfl rfl (StepS.assign rfl) ?_
    refine TO.s rfl rfl rfl (StepS.assign rfl) ?_
    refine TO.code ?_
    cases hm
    refine TC.ret fun a w e s => ?_
    refine FRet.mk2 (P := Try.prog) (fn := Try.f18) (t := 4) (u := 5) e rfl rfl rfl ?_
    refine ⟨_, _, rfl, ⟨(v6), rfl, rfl⟩, ?_⟩
    refine s.mono fun _ s => ?_
    replace s := Sat.front 0 rfl s
    exact s

set_option maxRecDepth 100000 in
theorem C4 {B : World} {L : List HP} {a0 : List Int} {a1 : List Int} {h0 : Value} {h1 : Value} {r0 : Bool} (e0 : Ent L (Rd 1 h0 (a0.map cI))) (e1 : Ent L (Rd 1 h1 (a1.map cI))) (hm : F4 a0 a1 = some r0) {w : World} (st : St B L w) : Calls Try.prog 4 #[h0, h1] w (fun e w' => (e = .returned (.bool r0) ∧ St B (L) w')) := by
  refine calls_of (N := 85) (L := L) (args := [h0, h1]) Try.func4 rfl rfl rfl ?_ st
  dsimp only [F4] at hm
  refine TC.k ?_
  refine TC.region ?_
  refine TO.s rfl rfl rfl (StepS.assign rfl) ?_
  refine TO.code ?_
  refine TC.k ?_
  refine TC.region ?_
  refine TO.s rfl rfl rfl (StepS.move rfl) ?_
  refine TO.s rfl rfl rfl (StepS.move rfl) ?_
  obtain ⟨⟨r1, r2⟩, hc3, hm⟩ := bind_some hm
  refine TO.callO kcallB_18_true rfl rfl rfl (fun _ st => C18 e0 e1 hc3 st) ?_
  rintro _ _ ⟨v4, rfl, rfl⟩
  refine TO.s rfl rfl rfl (StepS.move rfl) ?_
  refine TO.s rfl rfl rfl (StepS.extract rfl rfl) ?_
  refine TO.s rfl rfl rfl (StepS.extract rfl rfl) ?_
  refine TO.s rfl rfl rfl (StepS.assign rfl) ?_
  refine TO.s rfl rfl rfl (StepS.assign rfl) ?_
  refine TO.code ?_
  refine TC.k ?_
  refine TC.region ?_
  refine TO.s rfl rfl rfl (StepS.move rfl) ?_
  refine TO.s rfl rfl rfl (StepS.move rfl) ?_
  obtain ⟨r6, hc7, hm⟩ := bind_some hm
  refine TO.q rfl rfl rfl (StepQ.call kcallB_16_true rfl rfl (fun _ st => C16 e0.tl e1.tl hc7 st)) ?_
  refine TO.s rfl rfl rfl (StepS.assign rfl) ?_
  refine TO.code ?_
  refine TC.k ?_
  refine TC.k ?_
  refine TC.region ?_
  refine TO.s rfl rfl rfl (StepS.move rfl) ?_
  refine TO.s rfl rfl rfl (StepS.cmp rfl rfl rfl) ?_
  refine TO.code ?_
  refine TC.cond rfl (fun hc8 => ?_) (fun hc8 => ?_)
  · replace hm := cond_t hc8 hm
    refine TC.k ?_
    refine TC.region ?_
    refine TO.s rfl rfl rfl (StepS.move rfl) ?_
    refine TO.s rfl rfl rfl (StepS.move rfl) ?_
    refine TO.s rfl rfl rfl (StepS.cmp rfl rfl rfl) ?_
    refine TO.s rfl rfl rfl (StepS.move rfl) ?_
    refine TO.mid1 4 27 (.bool ((r2 == r6) && ((r1.length : Int) == 0))) ?_ ?_
    · refine bcase ((r2 == r6)) (fun hb9 => ?_) (fun hb9 => ?_)
      · refine TO.sw rfl rfl rfl hb9 rfl rfl (StepS.move rfl) ?_
        refine TO.sw rfl rfl rfl hb9 rfl rfl (StepS.lenm rfl (OwnS.rd (Ent.at 0 rfl)) ksliceB_22_3_1_true rfl) ?_
        refine TO.sw rfl rfl rfl hb9 rfl rfl (StepS.cmp rfl rfl rfl) ?_
        refine TO.s rfl rfl rfl (StepS.pickT rfl hb9 rfl) ?_
        exact TO.up1 4 0 rfl rfl (by rw [hb9]; rfl) rfl
      · refine TO.skip rfl rfl rfl (skipF hb9) rfl rfl ?_
        refine TO.skip rfl rfl rfl (skipF hb9) rfl rfl ?_
        refine TO.skip rfl rfl rfl (skipF hb9) rfl rfl ?_
        refine TO.s rfl rfl rfl (StepS.pickF rfl hb9 rfl) ?_
        exact TO.up1 4 0 rfl rfl (by rw [hb9]; rfl) rfl
    refine TO.s rfl rfl rfl (StepS.assign rfl) ?_
    refine TO.code ?_
    cases hm
    refine TC.ret fun a w e s => ?_
    refine FRet.mk1 (P := Try.prog) (fn := Try.f4) (t := 4) e rfl rfl ?_
    exact ⟨rfl, s.mono fun _ => Sat.dropN 1⟩
  · replace hm := cond_f hc8 hm
    refine TC.skipk ?_
    refine TC.k ?_
    refine TC.k ?_
    refine TC.region ?_
    refine TO.s rfl rfl rfl (StepS.move rfl) ?_
    refine TO.s rfl rfl rfl (StepS.cmp rfl rfl rfl) ?_
    refine TO.s rfl rfl rfl (StepS.move rfl) ?_
    refine TO.mid1 6 36 (.bool ((r2 != 0) || ((r1.length : Int) != (a0.length : Int)))) ?_ ?_
    · refine bcase ((r2 != 0)) (fun hb10 => ?_) (fun hb10 => ?_)
      · refine TO.skip rfl rfl rfl (skipT hb10) rfl rfl ?_
        refine TO.skip rfl rfl rfl (skipT hb10) rfl rfl ?_
        refine TO.skip rfl rfl rfl (skipT hb10) rfl rfl ?_
        refine TO.skip rfl rfl rfl (skipT hb10) rfl rfl ?_
        refine TO.skip rfl rfl rfl (skipT hb10) rfl rfl ?_
        refine TO.s rfl rfl rfl (StepS.pickT rfl hb10 rfl) ?_
        exact TO.up1 6 0 rfl rfl (by rw [hb10]; rfl) rfl
      · refine TO.sw rfl rfl rfl hb10 rfl rfl (StepS.move rfl) ?_
        refine TO.sw rfl rfl rfl hb10 rfl rfl (StepS.lenm rfl (OwnS.rd (Ent.at 0 rfl)) ksliceB_22_3_1_true rfl) ?_
        refine TO.sw rfl rfl rfl hb10 rfl rfl (StepS.move rfl) ?_
        refine TO.sw rfl rfl rfl hb10 rfl rfl (StepS.lenm rfl e0.tl ksliceB_22_3_1_true rfl) ?_
        refine TO.sw rfl rfl rfl hb10 rfl rfl (StepS.cmp rfl rfl rfl) ?_
        refine TO.s rfl rfl rfl (StepS.pickF rfl hb10 rfl) ?_
        exact TO.up1 6 0 rfl rfl (by rw [hb10]; rfl) rfl
    refine TO.code ?_
    refine TC.cond rfl (fun hc11 => ?_) (fun hc11 => ?_)
    · replace hm := cond_t hc11 hm
      refine TC.k ?_
      refine TC.region ?_
      refine TO.s rfl rfl rfl (StepS.assign rfl) ?_
      refine TO.code ?_
      cases hm
      refine TC.ret fun a w e s => ?_
      refine FRet.mk1 (P := Try.prog) (fn := Try.f4) (t := 4) e rfl rfl ?_
      exact ⟨rfl, s.mono fun _ => Sat.dropN 1⟩
    · replace hm := cond_f hc11 hm
      refine TC.skipk ?_
      refine TC.k ?_
      refine TC.k ?_
      refine TC.region ?_
      refine TO.s rfl rfl rfl (StepS.assign rfl) ?_
      refine TO.code ?_
      obtain ⟨o14, hw15, hm⟩ := bind_some hm
      refine TC.loop hw15 (fun x12 => fun a w => Mid 85 B [(0, h0), (1, h1), (5, v4), (8, I x12)] (OwnS 3 1 v4 (r1.map cI) :: L) a w) (fun _ => fun a w => Mid 85 B [] (OwnS 3 1 v4 (r1.map cI) :: L) a w) (fun r0 => FRet Try.prog Try.f4 (fun e w' => (e = .returned (.bool r0) ∧ St B (L) w'))) ?_ ?_ ?_ ?_
      · rintro x12 o14r hb16 a w ⟨he, hs⟩
        dsimp only [F4_L0] at hb16
        refine TC.use ?_ he hs
        refine TC.k ?_
        refine TC.k ?_
        refine TC.region ?_
        refine TO.s rfl rfl rfl (StepS.move rfl) ?_
        refine TO.s rfl rfl rfl (StepS.move rfl) ?_
        refine TO.s rfl rfl rfl (StepS.lenm rfl (OwnS.rd (Ent.at 0 rfl)) ksliceB_22_3_1_true rfl) ?_
        refine TO.s rfl rfl rfl (StepS.cmp rfl rfl rfl) ?_
        refine TO.code ?_
        refine TC.cond rfl (fun hc17 => ?_) (fun hc17 => ?_)
        · replace hb16 := cond_t hc17 hb16
          refine TC.skipk ?_
          refine TC.k ?_
          refine TC.block ?_
          refine TC.k ?_
          refine TC.region_still kfollows_mixedOrders_true (by kernel_rfl) ?_
          refine TS.s rfl rfl rfl (StepS.move rfl) ?_
          refine TS.s rfl rfl rfl (StepS.move rfl) ?_
          obtain ⟨x18, hx19, hb16⟩ := bind_some hb16
          refine TS.s rfl rfl rfl (StepS.idx rfl rfl (OwnS.rd (Ent.at 0 rfl)) ksliceB_22_3_1_true (idx_spec hx19).1 (idxm_lt hx19)) ?_
          refine TS.s rfl rfl rfl (StepS.ld0 rfl (OwnS.rd (Ent.at 0 rfl)) kscalB_3_true rfl (idxm hx19) rfl) ?_
          refine TS.s rfl rfl rfl (StepS.move rfl) ?_
          refine TS.s rfl rfl rfl (StepS.move rfl) ?_
          obtain ⟨x20, hx21, hb16⟩ := bind_some hb16
          refine TS.s rfl rfl rfl (StepS.idx rfl rfl e0.tl ksliceB_22_3_1_true (idx_spec hx21).1 (idxm_lt hx21)) ?_
          refine TS.s rfl rfl rfl (StepS.ld0 rfl e0.tl kscalB_3_true rfl (idxm hx21) rfl) ?_
          refine TS.s rfl rfl rfl (StepS.cmp rfl rfl rfl) ?_
          refine TS.s rfl rfl rfl (StepS.move rfl) ?_
          obtain ⟨b23, hj24, hb16⟩ := bind_some hb16
          refine TS.mid1 10 62 (.bool b23) ?_ ?_
          · refine bcase ((decide (x18 < x20))) (fun hb22 => ?_) (fun hb22 => ?_)
            · replace hj24 := cond_t hb22 hj24
              cases hj24
              refine TS.skip rfl rfl rfl (skipT hb22) rfl rfl ?_
              refine TS.skip rfl rfl rfl (skipT hb22) rfl rfl ?_
              refine TS.skip rfl rfl rfl (skipT hb22) rfl rfl ?_
              refine TS.skip rfl rfl rfl (skipT hb22) rfl rfl ?_
              refine TS.skip rfl rfl rfl (skipT hb22) rfl rfl ?_
              refine TS.skip rfl rfl rfl (skipT hb22) rfl rfl ?_
              refine TS.skip rfl rfl rfl (skipT hb22) rfl rfl ?_
              refine TS.skip rfl rfl rfl (skipT hb22) rfl rfl ?_
              refine TS.skip rfl rfl rfl (skipT hb22) rfl rfl ?_
              refine TS.s rfl rfl rfl (StepS.pickT rfl hb22 rfl) ?_
              exact TS.up1 10 0 rfl rfl rfl rfl
            · replace hj24 := cond_f hb22 hj24
              refine TS.sw rfl rfl rfl hb22 rfl rfl (StepS.move rfl) ?_
              refine TS.sw rfl rfl rfl hb22 rfl rfl (StepS.move rfl) ?_
              obtain ⟨x25, hx26, hj24⟩ := bind_some hj24
              refine TS.sw rfl rfl rfl hb22 rfl rfl (StepS.idx rfl rfl (OwnS.rd (Ent.at 0 rfl)) ksliceB_22_3_1_true (idx_spec hx26).1 (idxm_lt hx26)) ?_
              refine TS.sw rfl rfl rfl hb22 rfl rfl (StepS.ld0 rfl (OwnS.rd (Ent.at 0 rfl)) kscalB_3_true rfl (idxm hx26) rfl) ?_
              refine TS.sw rfl rfl rfl hb22 rfl rfl (StepS.move rfl) ?_
              refine TS.sw rfl rfl rfl hb22 rfl rfl (StepS.move rfl) ?_
              obtain ⟨x27, hx28, hj24⟩ := bind_some hj24
              refine TS.sw rfl rfl rfl hb22 rfl rfl (StepS.idx rfl rfl e1.tl ksliceB_22_3_1_true (idx_spec hx28).1 (idxm_lt hx28)) ?_
              refine TS.sw rfl rfl rfl hb22 rfl rfl (StepS.ld0 rfl e1.tl kscalB_3_true rfl (idxm hx28) rfl) ?_
              refine TS.sw rfl rfl rfl hb22 rfl rfl (StepS.cmp rfl rfl rfl) ?_
              cases hj24
              refine TS.s rfl rfl rfl (StepS.pickF rfl hb22 rfl) ?_
              exact TS.up1 10 0 rfl rfl rfl rfl
          refine TS.s rfl rfl rfl (StepS.move rfl) ?_
          obtain ⟨b30, hj31, hb16⟩ := bind_some hb16
          refine TS.mid1 21 84 (.bool b30) ?_ ?_
          · refine bcase (b23) (fun hb29 => ?_) (fun hb29 => ?_)
            · replace hj31 := cond_t hb29 hj31
              cases hj31
              refine TS.skip rfl rfl rfl (skipT hb29) rfl rfl ?_
              refine TS.skip rfl rfl rfl (skipT hb29) rfl rfl ?_
              refine TS.skip rfl rfl rfl (skipT hb29) rfl rfl ?_
              refine TS.skip rfl rfl rfl (skipT hb29) rfl rfl ?_
              refine TS.skip rfl rfl rfl (skipT hb29) rfl rfl ?_
              refine TS.skip rfl rfl rfl (skipT hb29) rfl rfl ?_
              refine TS.skip rfl rfl rfl (skipT hb29) rfl rfl ?_
              refine TS.skip rfl rfl rfl (skipT hb29) rfl rfl ?_
              refine TS.skip rfl rfl rfl (skipT hb29) rfl rfl ?_
              refine TS.skip rfl rfl rfl (skipT hb29) rfl rfl ?_
              refine TS.skip rfl rfl rfl skipU rfl rfl ?_
              refine TS.skip rfl rfl rfl skipU rfl rfl ?_
              refine TS.skip rfl rfl rfl skipU rfl rfl ?_
              refine TS.skip rfl rfl rfl skipU rfl rfl ?_
              refine TS.skip rfl rfl rfl skipU rfl rfl ?_
              refine TS.skip rfl rfl rfl skipU rfl rfl ?_
              refine TS.skip rfl rfl rfl skipU rfl rfl ?_
              refine TS.skip rfl rfl rfl skipU rfl rfl ?_
              refine TS.skip rfl rfl rfl skipU rfl rfl ?_
              refine TS.skip rfl rfl rfl (skipT hb29) rfl rfl ?_
              refine TS.s rfl rfl rfl (StepS.pickT rfl hb29 rfl) ?_
              exact TS.up1 21 0 rfl rfl rfl rfl
            · replace hj31 := cond_f hb29 hj31
              refine TS.sw rfl rfl rfl hb29 rfl rfl (StepS.move rfl) ?_
              refine TS.sw rfl rfl rfl hb29 rfl rfl (StepS.move rfl) ?_
              obtain ⟨x32, hx33, hj31⟩ := bind_some hj31
              refine TS.sw rfl rfl rfl hb29 rfl rfl (StepS.idx rfl rfl (OwnS.rd (Ent.at 0 rfl)) ksliceB_22_3_1_true (idx_spec hx33).1 (idxm_lt hx33)) ?_
              refine TS.sw rfl rfl rfl hb29 rfl rfl (StepS.ld0 rfl (OwnS.rd (Ent.at 0 rfl)) kscalB_3_true rfl (idxm hx33) rfl) ?_
              refine TS.sw rfl rfl rfl hb29 rfl rfl (StepS.move rfl) ?_
              refine TS.sw rfl rfl rfl hb29 rfl rfl (StepS.move rfl) ?_
              obtain ⟨x34, hx35, hj31⟩ := bind_some hj31
              refine TS.sw rfl rfl rfl hb29 rfl rfl (StepS.idx rfl rfl e0.tl ksliceB_22_3_1_true (idx_spec hx35).1 (idxm_lt hx35)) ?_
              refine TS.sw rfl rfl rfl hb29 rfl rfl (StepS.ld0 rfl e0.tl kscalB_3_true rfl (idxm hx35) rfl) ?_
              refine TS.sw rfl rfl rfl hb29 rfl rfl (StepS.cmp rfl rfl rfl) ?_
              refine TS.sw rfl rfl rfl hb29 rfl rfl (StepS.move rfl) ?_
              obtain ⟨b37, hj38, hj31⟩ := bind_some hj31
              refine TS.mid1 10 83 (.bool b37) ?_ ?_
              · refine bcase ((x32 != x34)) (fun hb36 => ?_) (fun hb36 => ?_)
                · replace hj38 := cond_t hb36 hj38
                  refine TS.sw rfl rfl rfl hb36 rfl rfl (StepS.move rfl) ?_
                  refine TS.sw rfl rfl rfl hb36 rfl rfl (StepS.move rfl) ?_
                  obtain ⟨x39, hx40, hj38⟩ := bind_some hj38
                  refine TS.sw rfl rfl rfl hb36 rfl rfl (StepS.idx rfl rfl (OwnS.rd (Ent.at 0 rfl)) ksliceB_22_3_1_true (idx_spec hx40).1 (idxm_lt hx40)) ?_
                  refine TS.sw rfl rfl rfl hb36 rfl rfl (StepS.ld0 rfl (OwnS.rd (Ent.at 0 rfl)) kscalB_3_true rfl (idxm hx40) rfl) ?_
                  refine TS.sw rfl rfl rfl hb36 rfl rfl (StepS.move rfl) ?_
                  refine TS.sw rfl rfl rfl hb36 rfl rfl (StepS.move rfl) ?_
                  obtain ⟨x41, hx42, hj38⟩ := bind_some hj38
                  refine TS.sw rfl rfl rfl hb36 rfl rfl (StepS.idx rfl rfl e1.tl ksliceB_22_3_1_true (idx_spec hx42).1 (idxm_lt hx42)) ?_
                  refine TS.sw rfl rfl rfl hb36 rfl rfl (StepS.ld0 rfl e1.tl kscalB_3_true rfl (idxm hx42) rfl) ?_
                  refine TS.sw rfl rfl rfl hb36 rfl rfl (StepS.cmp rfl rfl rfl) ?_
                  cases hj38
                  refine TS.sw rfl rfl rfl hb29 rfl rfl (StepS.pickT rfl hb36 rfl) ?_
                  exact TS.up1 10 0 rfl rfl rfl rfl
                · replace hj38 := cond_f hb36 hj38
                  cases hj38
                  refine TS.skip rfl rfl rfl (skipF hb36) rfl rfl ?_
                  refine TS.skip rfl rfl rfl (skipF hb36) rfl rfl ?_
                  refine TS.skip rfl rfl rfl (skipF hb36) rfl rfl ?_
                  refine TS.skip rfl rfl rfl (skipF hb36) rfl rfl ?_
                  refine TS.skip rfl rfl rfl (skipF hb36) rfl rfl ?_
                  refine TS.skip rfl rfl rfl (skipF hb36) rfl rfl ?_
                  refine TS.skip rfl rfl rfl (skipF hb36) rfl rfl ?_
                  refine TS.skip rfl rfl rfl (skipF hb36) rfl rfl ?_
                  refine TS.skip rfl rfl rfl (skipF hb36) rfl rfl ?_
                  refine TS.sw rfl rfl rfl hb29 rfl rfl (StepS.pickF rfl hb36 rfl) ?_
                  exact TS.up1 10 0 rfl rfl rfl rfl
              cases hj31
              refine TS.s rfl rfl rfl (StepS.pickF rfl hb29 rfl) ?_
              exact TS.up1 12 0 rfl rfl rfl rfl
          refine TS.code ?_
          refine TC.cond rfl (fun hc43 => ?_) (fun hc43 => ?_)
          · replace hb16 := cond_t hc43 hb16
            refine TC.k ?_
            refine TC.region ?_
            refine TO.s rfl rfl rfl (StepS.assign rfl) ?_
            refine TO.code ?_
            cases hb16
            refine TC.ret fun a w e s => ?_
            refine FRet.mk1 (P := Try.prog) (fn := Try.f4) (t := 4) e rfl rfl ?_
            exact ⟨rfl, s.mono fun _ => Sat.dropN 1⟩
          · replace hb16 := cond_f hc43 hb16
            refine TC.skipk ?_
            refine TC.region ?_
            refine TO.s rfl rfl rfl (StepS.move rfl) ?_
            refine TO.s rfl rfl rfl (StepS.ari rfl rfl rfl) ?_
            refine TO.s rfl rfl rfl (StepS.assign rfl) ?_
            cases hb16
            refine TO.nil fun a w e s => ?_
            exact ⟨e.sub (lk_of_allIn ⟨rfl, rfl, rfl, rfl, trivial⟩), s⟩
        · replace hb16 := cond_f hc17 hb16
          cases hb16
          refine TC.exit rfl fun a w e s => ?_
          exact ⟨e.sub (lk_of_allIn trivial), s⟩
      · exact fun a w e s => ⟨e.sub (lk_of_allIn ⟨rfl, rfl, rfl, rfl, trivial⟩), s⟩
      · rintro _ rfl a w ⟨he, hs⟩
        dsimp only [Ctl.on] at hm
        refine TC.use ?_ he hs
        refine TC.k ?_
        refine TC.region ?_
        refine TO.s rfl rfl rfl (StepS.assign rfl) ?_
        refine TO.code ?_
        cases hm
        refine TC.ret fun a w e s => ?_
        refine FRet.mk1 (P := Try.prog) (fn := Try.f4) (t := 4) e rfl rfl ?_
        exact ⟨rfl, s.mono fun _ => Sat.dropN 1⟩
      · rintro r rfl
        cases hm
        exact fun a w h => h
end Go.Proofs.Ytdjmlbjkendobaa
