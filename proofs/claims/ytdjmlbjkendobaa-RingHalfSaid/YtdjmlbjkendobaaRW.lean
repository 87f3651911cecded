/-
  The walks: each Go function returns what its model says. Written by a program (gen.py).
-/
import Derived.Test.YtdjmlbjkendobaaProg
import Derived.KernelRfl
import Derived.Test.YtdjmlbjkendobaaRM
namespace Go.Proofs.Ytdjmlbjkendobaa
open Go Go.Bk
set_option linter.unusedVariables false
theorem ksliceB_22_3_1_true : sliceB Try.prog 22 3 1 = true := by kernel_rfl
theorem kscalB_3_true : scalB Try.prog 3 = true := by kernel_rfl
theorem kcallB_91_true : callB Try.prog 91 = true := by kernel_rfl
theorem kcallB_80_true : callB Try.prog 80 = true := by kernel_rfl
theorem kfollows_mixedOrders_true : Try.prog.follows .mixedOrders = true := by kernel_rfl
theorem kelemB_22_3_1_8_true : elemB Try.prog 22 3 1 8 = true := by kernel_rfl
theorem kinfo_3_bind_zero_some_I_0 : (Try.prog.info? 3).bind (·.zero) = some (I 0) := by kernel_rfl
theorem kcallB_55_true : callB Try.prog 55 = true := by kernel_rfl
theorem kcallB_56_true : callB Try.prog 56 = true := by kernel_rfl
theorem kcallB_57_true : callB Try.prog 57 = true := by kernel_rfl
theorem kcallB_30_true : callB Try.prog 30 = true := by kernel_rfl
theorem kcallB_31_true : callB Try.prog 31 = true := by kernel_rfl
theorem kcallB_32_true : callB Try.prog 32 = true := by kernel_rfl
theorem kcallB_29_true : callB Try.prog 29 = true := by kernel_rfl

set_option maxRecDepth 100000 in
theorem C91 {B : World} {L : List HP} {a0 : List Int} {a1 : Int} {h0 : Value} {r0 : Int} (e0 : Ent L (Rd 1 h0 (a0.map cI))) (hm : F91 a0 a1 = some r0) {w : World} (st : St B L w) : Calls Try.prog 91 #[h0, I a1] w (fun e w' => (e = .returned (I r0) ∧ St B (L) w')) := by
  refine calls_of (N := 19) (L := L) (args := [h0, I a1]) Try.func91 rfl rfl rfl ?_ st
  dsimp only [F91] at hm
  refine TC.k ?_
  refine TC.region ?_
  refine TO.s rfl rfl rfl (StepS.assign rfl) ?_
  refine TO.code ?_
  refine TC.k ?_
  refine TC.k ?_
  refine TC.region ?_
  refine TO.s rfl rfl rfl (StepS.move rfl) ?_
  refine TO.s rfl rfl rfl (StepS.lenm rfl e0 ksliceB_22_3_1_true rfl) ?_
  refine TO.s rfl rfl rfl (StepS.move rfl) ?_
  refine TO.code ?_
  obtain ⟨o3, hw4, hm⟩ := bind_some hm
  refine TC.loop hw4 (fun x1 => fun a w => Mid 19 B [(0, h0), (1, I a1), (7, I (a0.length : Int)), (8, I x1)] (L) a w) (fun _ => fun a w => Mid 19 B [] (L) a w) (fun r0 => FRet Try.prog Try.f91 (fun e w' => (e = .returned (I r0) ∧ St B (L) w'))) ?_ ?_ ?_ ?_
  · rintro x1 o3r hb5 a w ⟨he, hs⟩
    dsimp only [F91_L0] at hb5
    refine TC.use ?_ he hs
    refine TC.k ?_
    refine TC.region ?_
    refine TO.s rfl rfl rfl (StepS.cmp rfl rfl rfl) ?_
    refine TO.code ?_
    refine TC.k ?_
    refine TC.cond rfl (fun hc6 => ?_) (fun hc6 => ?_)
    · replace hb5 := cond_t hc6 hb5
      refine TC.skipk ?_
      refine TC.k ?_
      refine TC.block ?_
      refine TC.k ?_
      refine TC.region ?_
      refine TO.s rfl rfl rfl (StepS.move rfl) ?_
      refine TO.s rfl rfl rfl (StepS.assign rfl) ?_
      refine TO.code ?_
      refine TC.k ?_
      refine TC.region ?_
      refine TO.s rfl rfl rfl (StepS.move rfl) ?_
      refine TO.s rfl rfl rfl (StepS.move rfl) ?_
      refine TO.s rfl rfl rfl (StepS.move rfl) ?_
      obtain ⟨x7, hx8, hb5⟩ := bind_some hb5
      refine TO.s rfl rfl rfl (StepS.idx rfl rfl e0 ksliceB_22_3_1_true (idx_spec hx8).1 (idxm_lt hx8)) ?_
      refine TO.s rfl rfl rfl (StepS.ld0 rfl e0 kscalB_3_true rfl (idxm hx8) rfl) ?_
      refine TO.s rfl rfl rfl (StepS.cmp rfl rfl rfl) ?_
      refine TO.code ?_
      refine TC.cond rfl (fun hc9 => ?_) (fun hc9 => ?_)
      · replace hb5 := cond_t hc9 hb5
        refine TC.k ?_
        refine TC.region ?_
        refine TO.s rfl rfl rfl (StepS.move rfl) ?_
        refine TO.s rfl rfl rfl (StepS.assign rfl) ?_
        refine TO.code ?_
        cases hb5
        refine TC.ret fun a w e s => ?_
        refine FRet.mk1 (P := Try.prog) (fn := Try.f91) (t := 4) e rfl rfl ?_
        exact ⟨rfl, s.mono fun _ => Sat.dropN 0⟩
      · replace hb5 := cond_f hc9 hb5
        refine TC.skipk ?_
        refine TC.region ?_
        refine TO.s rfl rfl rfl (StepS.ari rfl rfl rfl) ?_
        refine TO.s rfl rfl rfl (StepS.move rfl) ?_
        cases hb5
        refine TO.nil fun a w e s => ?_
        exact ⟨e.sub (lk_of_allIn ⟨rfl, rfl, rfl, rfl, trivial⟩), s⟩
    · replace hb5 := cond_f hc6 hb5
      cases hb5
      refine TC.exit rfl fun a w e s => ?_
      exact ⟨e.sub (lk_of_allIn trivial), s⟩
  · exact fun a w e s => ⟨e.sub (lk_of_allIn ⟨rfl, rfl, rfl, rfl, trivial⟩), s⟩
  · rintro _ rfl a w ⟨he, hs⟩
    dsimp only [Ctl.on] at hm
    refine TC.use ?_ he hs
    refine TC.k ?_
    refine TC.region ?_
    refine TO.s rfl rfl rfl (StepS.assign rfl) ?_
    refine TO.code ?_
    cases hm
    refine TC.ret fun a w e s => ?_
    refine FRet.mk1 (P := Try.prog) (fn := Try.f91) (t := 4) e rfl rfl ?_
    exact ⟨rfl, s.mono fun _ => Sat.dropN 0⟩
  · rintro r rfl
    cases hm
    exact fun a w h => h

set_option maxRecDepth 100000 in
theorem C80 {B : World} {L : List HP} {a0 : List Int} {a1 : Int} {h0 : Value} {r0 : Bool} (e0 : Ent L (Rd 1 h0 (a0.map cI))) (hm : F80 a0 a1 = some r0) {w : World} (st : St B L w) : Calls Try.prog 80 #[h0, I a1] w (fun e w' => (e = .returned (.bool r0) ∧ St B (L) w')) := by
  refine calls_of (N := 9) (L := L) (args := [h0, I a1]) Try.func80 rfl rfl rfl ?_ st
  dsimp only [F80] at hm
  refine TC.k ?_
  refine TC.region ?_
  refine TO.s rfl rfl rfl (StepS.assign rfl) ?_
  refine TO.code ?_
  refine TC.k ?_
  refine TC.region ?_
  refine TO.s rfl rfl rfl (StepS.move rfl) ?_
  refine TO.s rfl rfl rfl (StepS.move rfl) ?_
  obtain ⟨r1, hc2, hm⟩ := bind_some hm
  refine TO.q rfl rfl rfl (StepQ.call kcallB_91_true rfl rfl (fun _ st => C91 e0 hc2 st)) ?_
  refine TO.s rfl rfl rfl (StepS.cmp rfl rfl rfl) ?_
  refine TO.s rfl rfl rfl (StepS.assign rfl) ?_
  refine TO.code ?_
  cases hm
  refine TC.ret fun a w e s => ?_
  refine FRet.mk1 (P := Try.prog) (fn := Try.f80) (t := 4) e rfl rfl ?_
  exact ⟨rfl, s.mono fun _ => Sat.dropN 0⟩

set_option maxRecDepth 100000 in
theorem C55 {B : World} {L : List HP} {a0 : List Int} {h0 : Value} {r0 : Int} (e0 : Ent L (Rd 1 h0 (a0.map cI))) (hm : F55 a0 = some r0) {w : World} (st : St B L w) : Calls Try.prog 55 #[h0] w (fun e w' => (e = .returned (I r0) ∧ St B (L) w')) := by
  refine calls_of (N := 26) (L := L) (args := [h0]) Try.func55 rfl rfl rfl ?_ st
  dsimp only [F55] at hm
  refine TC.k ?_
  refine TC.region ?_
  refine TO.s rfl rfl rfl (StepS.assign rfl) ?_
  refine TO.code ?_
  refine TC.k ?_
  refine TC.k ?_
  refine TC.region ?_
  refine TO.s rfl rfl rfl (StepS.move rfl) ?_
  refine TO.s rfl rfl rfl (StepS.lenm rfl e0 ksliceB_22_3_1_true rfl) ?_
  refine TO.s rfl rfl rfl (StepS.cmp rfl rfl rfl) ?_
  refine TO.s rfl rfl rfl (StepS.move rfl) ?_
  refine TO.mid1 4 12 (.bool ((decide ((a0.length : Int) < 1)) || (decide ((a0.length : Int) > 12)))) ?_ ?_
  · refine bcase ((decide ((a0.length : Int) < 1))) (fun hb1 => ?_) (fun hb1 => ?_)
    · refine TO.skip rfl rfl rfl (skipT hb1) rfl rfl ?_
      refine TO.skip rfl rfl rfl (skipT hb1) rfl rfl ?_
      refine TO.skip rfl rfl rfl (skipT hb1) rfl rfl ?_
      refine TO.s rfl rfl rfl (StepS.pickT rfl hb1 rfl) ?_
      exact TO.up1 4 0 rfl rfl (by rw [hb1]; rfl) rfl
    · refine TO.sw rfl rfl rfl hb1 rfl rfl (StepS.move rfl) ?_
      refine TO.sw rfl rfl rfl hb1 rfl rfl (StepS.lenm rfl e0 ksliceB_22_3_1_true rfl) ?_
      refine TO.sw rfl rfl rfl hb1 rfl rfl (StepS.cmp rfl rfl rfl) ?_
      refine TO.s rfl rfl rfl (StepS.pickF rfl hb1 rfl) ?_
      exact TO.up1 4 0 rfl rfl (by rw [hb1]; rfl) rfl
  refine TO.code ?_
  refine TC.cond rfl (fun hc2 => ?_) (fun hc2 => ?_)
  · replace hm := cond_t hc2 hm
    refine TC.k ?_
    refine TC.region ?_
    refine TO.s rfl rfl rfl (StepS.assign rfl) ?_
    refine TO.code ?_
    cases hm
    refine TC.ret fun a w e s => ?_
    refine FRet.mk1 (P := Try.prog) (fn := Try.f55) (t := 2) e rfl rfl ?_
    exact ⟨rfl, s.mono fun _ => Sat.dropN 0⟩
  · replace hm := cond_f hc2 hm
    refine TC.skipk ?_
    refine TC.k ?_
    refine TC.k ?_
    refine TC.region ?_
    refine TO.s rfl rfl rfl (StepS.move rfl) ?_
    refine TO.s rfl rfl rfl (StepS.lenm rfl e0 ksliceB_22_3_1_true rfl) ?_
    refine TO.s rfl rfl rfl (StepS.move rfl) ?_
    refine TO.code ?_
    obtain ⟨o5, hw6, hm⟩ := bind_some hm
    refine TC.loop hw6 (fun x3 => fun a w => Mid 26 B [(0, h0), (13, h0), (14, I (a0.length : Int)), (15, I x3)] (L) a w) (fun _ => fun a w => Mid 26 B [] (L) a w) (fun r0 => FRet Try.prog Try.f55 (fun e w' => (e = .returned (I r0) ∧ St B (L) w'))) ?_ ?_ ?_ ?_
    · rintro x3 o5r hb7 a w ⟨he, hs⟩
      dsimp only [F55_L0] at hb7
      refine TC.use ?_ he hs
      refine TC.k ?_
      refine TC.region ?_
      refine TO.s rfl rfl rfl (StepS.cmp rfl rfl rfl) ?_
      refine TO.code ?_
      refine TC.k ?_
      refine TC.cond rfl (fun hc8 => ?_) (fun hc8 => ?_)
      · replace hb7 := cond_t hc8 hb7
        refine TC.skipk ?_
        refine TC.k ?_
        refine TC.block ?_
        refine TC.k ?_
        refine TC.region ?_
        refine TO.s rfl rfl rfl (StepS.move rfl) ?_
        obtain ⟨x9, hx10, hb7⟩ := bind_some hb7
        refine TO.s rfl rfl rfl (StepS.idx rfl rfl e0 ksliceB_22_3_1_true (idx_spec hx10).1 (idxm_lt hx10)) ?_
        refine TO.s rfl rfl rfl (StepS.ld0 rfl e0 kscalB_3_true rfl (idxm hx10) rfl) ?_
        refine TO.s rfl rfl rfl (StepS.assign rfl) ?_
        refine TO.s rfl rfl rfl (StepS.assign rfl) ?_
        refine TO.code ?_
        refine TC.k ?_
        refine TC.region ?_
        refine TO.s rfl rfl rfl (StepS.move rfl) ?_
        refine TO.s rfl rfl rfl (StepS.move rfl) ?_
        obtain ⟨y11, hs12, hb7⟩ := bind_some hb7
        obtain ⟨hs12a, hs12b, hs12c, _⟩ := slI_spec hs12
        refine TO.s rfl rfl rfl (StepS.slc rfl e0 ksliceB_22_3_1_true rfl rfl hs12a hs12b (by simpa using hs12c)) ?_
        refine TO.s rfl rfl rfl (StepS.move rfl) ?_
        obtain ⟨r14, hc15, hb7⟩ := bind_some hb7
        refine TO.q rfl rfl rfl (StepQ.call kcallB_80_true rfl rfl (fun _ st => C80 (Ent.sub e0 hs12) hc15 st)) ?_
        refine TO.code ?_
        refine TC.cond rfl (fun hc16 => ?_) (fun hc16 => ?_)
        · replace hb7 := cond_t hc16 hb7
          refine TC.k ?_
          refine TC.region ?_
          refine TO.s rfl rfl rfl (StepS.assign rfl) ?_
          refine TO.code ?_
          cases hb7
          refine TC.ret fun a w e s => ?_
          refine FRet.mk1 (P := Try.prog) (fn := Try.f55) (t := 2) e rfl rfl ?_
          exact ⟨rfl, s.mono fun _ => Sat.dropN 0⟩
        · replace hb7 := cond_f hc16 hb7
          refine TC.skipk ?_
          refine TC.region ?_
          refine TO.s rfl rfl rfl (StepS.ari rfl rfl rfl) ?_
          refine TO.s rfl rfl rfl (StepS.move rfl) ?_
          cases hb7
          refine TO.nil fun a w e s => ?_
          exact ⟨e.sub (lk_of_allIn ⟨rfl, rfl, rfl, rfl, trivial⟩), s⟩
      · replace hb7 := cond_f hc8 hb7
        cases hb7
        refine TC.exit rfl fun a w e s => ?_
        exact ⟨e.sub (lk_of_allIn trivial), s⟩
    · exact fun a w e s => ⟨e.sub (lk_of_allIn ⟨rfl, rfl, rfl, rfl, trivial⟩), s⟩
    · rintro _ rfl a w ⟨he, hs⟩
      dsimp only [Ctl.on] at hm
      refine TC.use ?_ he hs
      refine TC.k ?_
      refine TC.region ?_
      refine TO.s rfl rfl rfl (StepS.assign rfl) ?_
      refine TO.code ?_
      cases hm
      refine TC.ret fun a w e s => ?_
      refine FRet.mk1 (P := Try.prog) (fn := Try.f55) (t := 2) e rfl rfl ?_
      exact ⟨rfl, s.mono fun _ => Sat.dropN 0⟩
    · rintro r rfl
      cases hm
      exact fun a w h => h

set_option maxRecDepth 100000 in
theorem C56 {B : World} {L : List HP} {a0 : List Int} {h0 : Value} {r0 : Int} (e0 : Ent L (Rd 1 h0 (a0.map cI))) (hm : F56 a0 = some r0) {w : World} (st : St B L w) : Calls Try.prog 56 #[h0] w (fun e w' => (e = .returned (I r0) ∧ St B (L) w')) := by
  refine calls_of (N := 25) (L := L) (args := [h0]) Try.func56 rfl rfl rfl ?_ st
  dsimp only [F56] at hm
  refine TC.k ?_
  refine TC.region ?_
  refine TO.s rfl rfl rfl (StepS.assign rfl) ?_
  refine TO.code ?_
  refine TC.k ?_
  refine TC.k ?_
  refine TC.region ?_
  refine TO.s rfl rfl rfl (StepS.move rfl) ?_
  refine TO.s rfl rfl rfl (StepS.lenm rfl e0 ksliceB_22_3_1_true rfl) ?_
  refine TO.s rfl rfl rfl (StepS.cmp rfl rfl rfl) ?_
  refine TO.code ?_
  refine TC.cond rfl (fun hc1 => ?_) (fun hc1 => ?_)
  · replace hm := cond_t hc1 hm
    refine TC.region ?_
    cases hm
  · replace hm := cond_f hc1 hm
    refine TC.skipk ?_
    refine TC.k ?_
    refine TC.region ?_
    refine TO.s rfl rfl rfl (StepS.move rfl) ?_
    obtain ⟨x2, hx3, hm⟩ := bind_some hm
    refine TO.s rfl rfl rfl (StepS.idx rfl rfl e0 ksliceB_22_3_1_true (idx_spec hx3).1 (idxm_lt hx3)) ?_
    refine TO.s rfl rfl rfl (StepS.ld0 rfl e0 kscalB_3_true rfl (idxm hx3) rfl) ?_
    refine TO.s rfl rfl rfl (StepS.assign rfl) ?_
    refine TO.code ?_
    refine TC.k ?_
    refine TC.k ?_
    refine TC.region ?_
    refine TO.s rfl rfl rfl (StepS.assign rfl) ?_
    refine TO.code ?_
    obtain ⟨o9, hw10, hm⟩ := bind_some hm
    refine TC.loop hw10 (fun (x4, x5) => fun a w => Mid 25 B [(0, h0), (3, I x4), (4, I x5)] (L) a w) (fun x8 => fun a w => Mid 25 B [(3, I x8)] (L) a w) (fun (_ : Unit) _ _ => False) ?_ ?_ ?_ ?_
    · rintro ⟨x4, x5⟩ o9r hb11 a w ⟨he, hs⟩
      dsimp only [F56_L0] at hb11
      refine TC.use ?_ he hs
      refine TC.k ?_
      refine TC.k ?_
      refine TC.region ?_
      refine TO.s rfl rfl rfl (StepS.move rfl) ?_
      refine TO.s rfl rfl rfl (StepS.move rfl) ?_
      refine TO.s rfl rfl rfl (StepS.lenm rfl e0 ksliceB_22_3_1_true rfl) ?_
      refine TO.s rfl rfl rfl (StepS.cmp rfl rfl rfl) ?_
      refine TO.code ?_
      refine TC.cond rfl (fun hc12 => ?_) (fun hc12 => ?_)
      · replace hb11 := cond_t hc12 hb11
        refine TC.skipk ?_
        refine TC.k ?_
        refine TC.block ?_
        refine TC.region ?_
        refine TO.s rfl rfl rfl (StepS.move rfl) ?_
        refine TO.s rfl rfl rfl (StepS.move rfl) ?_
        refine TO.s rfl rfl rfl (StepS.move rfl) ?_
        obtain ⟨x13, hx14, hb11⟩ := bind_some hb11
        refine TO.s rfl rfl rfl (StepS.idx rfl rfl e0 ksliceB_22_3_1_true (idx_spec hx14).1 (idxm_lt hx14)) ?_
        refine TO.s rfl rfl rfl (StepS.ld0 rfl e0 kscalB_3_true rfl (idxm hx14) rfl) ?_
        refine TO.s rfl rfl rfl (StepS.max2 rfl rfl) ?_
        refine TO.s rfl rfl rfl (StepS.assign rfl) ?_
        refine TO.code ?_
        refine TC.region ?_
        refine TO.s rfl rfl rfl (StepS.move rfl) ?_
        refine TO.s rfl rfl rfl (StepS.ari rfl rfl rfl) ?_
        refine TO.s rfl rfl rfl (StepS.assign rfl) ?_
        cases hb11
        refine TO.nil fun a w e s => ?_
        exact ⟨e.sub (lk_of_allIn ⟨rfl, rfl, rfl, trivial⟩), s⟩
      · replace hb11 := cond_f hc12 hb11
        cases hb11
        refine TC.exit rfl fun a w e s => ?_
        exact ⟨e.sub (lk_of_allIn ⟨rfl, trivial⟩), s⟩
    · exact fun a w e s => ⟨e.sub (lk_of_allIn ⟨rfl, rfl, rfl, trivial⟩), s⟩
    · rintro x8 rfl a w ⟨he, hs⟩
      dsimp only [Ctl.on] at hm
      refine TC.use ?_ he hs
      refine TC.k ?_
      refine TC.region ?_
      refine TO.s rfl rfl rfl (StepS.move rfl) ?_
      refine TO.s rfl rfl rfl (StepS.assign rfl) ?_
      refine TO.code ?_
      cases hm
      refine TC.ret fun a w e s => ?_
      refine FRet.mk1 (P := Try.prog) (fn := Try.f56) (t := 2) e rfl rfl ?_
      exact ⟨rfl, s.mono fun _ => Sat.dropN 0⟩
    · rintro r rfl
      exact fun a w h => h.elim

set_option maxRecDepth 100000 in
theorem C57 {B : World} {L : List HP} {a0 : List Int} {h0 : Value} {r0 : List Int} (e0 : Ent L (Rd 1 h0 (a0.map cI))) (hm : F57 a0 = some r0) {w : World} (st : St B L w) : Calls Try.prog 57 #[h0] w (fun e w' => ∃ v M, e = .returned v ∧ (∃ (qr0 : Value), v = qr0 ∧ M = (OwnS 3 1 qr0 (r0.map cI) :: L)) ∧ St B M w') := by
  refine calls_of (N := 52) (L := L) (args := [h0]) Try.func57 rfl rfl rfl ?_ st
  dsimp only [F57] at hm
  refine TC.k ?_
  refine TC.region ?_
  refine TO.s rfl rfl rfl (StepS.assign rfl) ?_
  refine TO.code ?_
  refine TC.k ?_
  refine TC.region ?_
  refine TO.s rfl rfl rfl (StepS.move rfl) ?_
  refine TO.s rfl rfl rfl (StepS.lenm rfl e0 ksliceB_22_3_1_true rfl) ?_
  refine TO.s rfl rfl rfl (StepS.assign rfl) ?_
  refine TO.code ?_
  refine TC.k ?_
  refine TC.region ?_
  refine TO.s rfl rfl rfl (StepS.assign rfl) ?_
  refine TO.code ?_
  refine TC.k ?_
  refine TC.k ?_
  refine TC.region ?_
  refine TO.s rfl rfl rfl (StepS.move rfl) ?_
  refine TO.s rfl rfl rfl (StepS.lenm rfl e0 ksliceB_22_3_1_true rfl) ?_
  refine TO.s rfl rfl rfl (StepS.move rfl) ?_
  refine TO.code ?_
  obtain ⟨o12, hw13, hm⟩ := bind_some hm
  refine TC.loop hw13 (fun (y3, x4) => fun a w => ∃ v1 : Value, Mid 52 B [(0, h0), (3, I (a0.length : Int)), (4, v1), (12, I (a0.length : Int)), (13, I x4)] (OwnS 3 1 v1 (y3.map cI) :: L) a w) (fun y11 => fun a w => ∃ v9 : Value, Mid 52 B [(4, v9)] (OwnS 3 1 v9 (y11.map cI) :: L) a w) (fun (_ : Unit) _ _ => False) ?_ ?_ ?_ ?_
  · rintro ⟨y3, x4⟩ o12r hb14 a w ⟨v1, he, hs⟩
    dsimp only [F57_L0] at hb14
    refine TC.use ?_ he hs
    refine TC.k ?_
    refine TC.region ?_
    refine TO.s rfl rfl rfl (StepS.cmp rfl rfl rfl) ?_
    refine TO.code ?_
    refine TC.k ?_
    refine TC.cond rfl (fun hc15 => ?_) (fun hc15 => ?_)
    · replace hb14 := cond_t hc15 hb14
      refine TC.skipk ?_
      refine TC.k ?_
      obtain ⟨y16, hj18, hb14⟩ := bind_some hb14
      refine TC.cutM (fun a w => ∃ v17 : Value, Mid 52 B [(0, h0), (3, I (a0.length : Int)), (4, v17), (12, I (a0.length : Int)), (13, I x4)] (OwnS 3 1 v17 (y16.map cI) :: L) a w) ?_ ?_
      · refine TC.block ?_
        refine TC.k ?_
        refine TC.region ?_
        refine TO.s rfl rfl rfl (StepS.move rfl) ?_
        refine TO.s rfl rfl rfl (StepS.assign rfl) ?_
        refine TO.code ?_
        refine TC.k ?_
        refine TC.region_still kfollows_mixedOrders_true (by kernel_rfl) ?_
        refine TS.s rfl rfl rfl (StepS.move rfl) ?_
        refine TS.s rfl rfl rfl (StepS.move rfl) ?_
        refine TS.s rfl rfl rfl (StepS.move rfl) ?_
        refine TS.s rfl rfl rfl (StepS.ari rfl rfl rfl) ?_
        refine TS.s rfl rfl rfl (StepS.ari rfl rfl rfl) ?_
        refine TS.s rfl rfl rfl (StepS.move rfl) ?_
        obtain ⟨u20, hd19, hj18⟩ := bind_some hj18
        refine TS.s rfl rfl rfl (StepS.rem rfl rfl (nz_spec hd19)) ?_
        obtain ⟨x21, hx22, hj18⟩ := bind_some hj18
        refine TS.s rfl rfl rfl (StepS.idx rfl rfl e0.tl ksliceB_22_3_1_true (idx_spec hx22).1 (idxm_lt hx22)) ?_
        refine TS.s rfl rfl rfl (StepS.ld0 rfl e0.tl kscalB_3_true rfl (idxm hx22) rfl) ?_
        refine TS.s rfl rfl rfl (StepS.move rfl) ?_
        refine TS.s rfl rfl rfl (StepS.move rfl) ?_
        refine TS.s rfl rfl rfl (StepS.move rfl) ?_
        refine TS.s rfl rfl rfl (StepS.ari rfl rfl rfl) ?_
        refine TS.s rfl rfl rfl (StepS.ari rfl rfl rfl) ?_
        refine TS.s rfl rfl rfl (StepS.move rfl) ?_
        obtain ⟨u24, hd23, hj18⟩ := bind_some hj18
        refine TS.s rfl rfl rfl (StepS.rem rfl rfl (nz_spec hd23)) ?_
        obtain ⟨x25, hx26, hj18⟩ := bind_some hj18
        refine TS.s rfl rfl rfl (StepS.idx rfl rfl e0.tl ksliceB_22_3_1_true (idx_spec hx26).1 (idxm_lt hx26)) ?_
        refine TS.s rfl rfl rfl (StepS.ld0 rfl e0.tl kscalB_3_true rfl (idxm hx26) rfl) ?_
        refine TS.s rfl rfl rfl (StepS.move rfl) ?_
        refine TS.s rfl rfl rfl (StepS.move rfl) ?_
        obtain ⟨x27, hx28, hj18⟩ := bind_some hj18
        refine TS.s rfl rfl rfl (StepS.idx rfl rfl e0.tl ksliceB_22_3_1_true (idx_spec hx28).1 (idxm_lt hx28)) ?_
        refine TS.s rfl rfl rfl (StepS.ld0 rfl e0.tl kscalB_3_true rfl (idxm hx28) rfl) ?_
        refine TS.s rfl rfl rfl (StepS.assign rfl) ?_
        refine TS.s rfl rfl rfl (StepS.assign rfl) ?_
        refine TS.s rfl rfl rfl (StepS.assign rfl) ?_
        refine TS.code ?_
        refine TC.k ?_
        refine TC.region ?_
        refine TO.s rfl rfl rfl (StepS.move rfl) ?_
        refine TO.s rfl rfl rfl (StepS.move rfl) ?_
        refine TO.s rfl rfl rfl (StepS.cmp rfl rfl rfl) ?_
        refine TO.s rfl rfl rfl (StepS.move rfl) ?_
        refine TO.mid1 4 45 (.bool ((decide (x25 > x21)) && (decide (x25 > x27)))) ?_ ?_
        · refine bcase ((decide (x25 > x21))) (fun hb29 => ?_) (fun hb29 => ?_)
          · refine TO.sw rfl rfl rfl hb29 rfl rfl (StepS.move rfl) ?_
            refine TO.sw rfl rfl rfl hb29 rfl rfl (StepS.move rfl) ?_
            refine TO.sw rfl rfl rfl hb29 rfl rfl (StepS.cmp rfl rfl rfl) ?_
            refine TO.s rfl rfl rfl (StepS.pickT rfl hb29 rfl) ?_
            exact TO.up1 4 0 rfl rfl (by rw [hb29]; rfl) rfl
          · refine TO.skip rfl rfl rfl (skipF hb29) rfl rfl ?_
            refine TO.skip rfl rfl rfl (skipF hb29) rfl rfl ?_
            refine TO.skip rfl rfl rfl (skipF hb29) rfl rfl ?_
            refine TO.s rfl rfl rfl (StepS.pickF rfl hb29 rfl) ?_
            exact TO.up1 4 0 rfl rfl (by rw [hb29]; rfl) rfl
        refine TO.code ?_
        refine TC.cond rfl (fun hc30 => ?_) (fun hc30 => ?_)
        · replace hj18 := cond_t hc30 hj18
          refine TC.region ?_
          refine TO.s rfl rfl rfl (StepS.move rfl) ?_
          refine TO.s rfl rfl rfl (StepS.move rfl) ?_
          refine TO.litS (f := cI) ([x25] : List Int) kelemB_22_3_1_8_true kinfo_3_bind_zero_some_I_0 rfl rfl (fun _ => rfl) rfl rfl (by kernel_rfl) rfl fun v31 => ?_
          obtain ⟨y33, hk34, hj18⟩ := bind_some hj18
          refine TO.app (k := 1) (f := cI) kelemB_22_3_1_8_true (by decide) rfl rfl rfl (OwnS.rd (Ent.at 0 rfl)) hk34 (fun x c hc => by simp [Value.oneCell'] at hc ⊢; first | (obtain rfl := hc; rfl) | (rcases hc with rfl <;> rfl)) rfl rfl fun v35 => ?_
          refine TO.s rfl rfl rfl (StepS.assign rfl) ?_
          cases hj18
          refine TO.nil fun a w e s => ?_
          exact ⟨v35, e.sub (lk_of_allIn ⟨rfl, rfl, rfl, rfl, rfl, trivial⟩), s.mono fun _ => Sat.dropN 1⟩
        · replace hj18 := cond_f hc30 hj18
          cases hj18
          refine TC.skip fun a w e s => ?_
          exact ⟨v1, e.sub (lk_of_allIn ⟨rfl, rfl, rfl, rfl, rfl, trivial⟩), s⟩
      · intro a w ⟨v17, he, hs⟩
        refine TC.use ?_ he hs
        refine TC.region ?_
        refine TO.s rfl rfl rfl (StepS.ari rfl rfl rfl) ?_
        refine TO.s rfl rfl rfl (StepS.move rfl) ?_
        cases hb14
        refine TO.nil fun a w e s => ?_
        exact ⟨v17, e.sub (lk_of_allIn ⟨rfl, rfl, rfl, rfl, rfl, trivial⟩), s⟩
    · replace hb14 := cond_f hc15 hb14
      cases hb14
      refine TC.exit rfl fun a w e s => ?_
      exact ⟨v1, e.sub (lk_of_allIn ⟨rfl, trivial⟩), s⟩
  · exact fun a w e s => ⟨.slice none 0 0, e.sub (lk_of_allIn ⟨rfl, rfl, rfl, rfl, rfl, trivial⟩), s.mono fun _ s => (by replace s := Sat.nilS (e := 3) (sz := 1) (f := cI) s; exact s)⟩
  · rintro y11 rfl a w ⟨v9, he, hs⟩
    dsimp only [Ctl.on] at hm
    refine TC.use ?_ he hs
    refine TC.k ?_
    refine TC.region ?_
    refine TO.s rfl rfl rfl (StepS.move rfl) ?_
    refine TO.s rfl rfl rfl (StepS.assign rfl) ?_
    refine TO.code ?_
    cases hm
    refine TC.ret fun a w e s => ?_
    refine FRet.mk1 (P := Try.prog) (fn := Try.f57) (t := 2) e rfl rfl ?_
    refine ⟨_, _, rfl, ⟨(v9), rfl, rfl⟩, ?_⟩
    refine s.mono fun _ s => ?_
    replace s := Sat.front 0 rfl s
    exact s
  · rintro r rfl
    exact fun a w h => h.elim

set_option maxRecDepth 100000 in
theorem C30 {B : World} {L : List HP} {a0 : List Int} {h0 : Value} {r0 : List Int} {r1 : Int} (e0 : Ent L (Rd 1 h0 (a0.map cI))) (hm : F30 a0 = some (r0, r1)) {w : World} (st : St B L w) : Calls Try.prog 30 #[h0] w (fun e w' => ∃ v M, e = .returned v ∧ (∃ (qr0 : Value), v = .tuple #[qr0, I r1] ∧ M = (OwnS 3 1 qr0 (r0.map cI) :: L)) ∧ St B M w') := by
  refine calls_of (N := 18) (L := L) (args := [h0]) Try.func30 rfl rfl rfl ?_ st
  dsimp only [F30] at hm
  refine TC.k ?_
  refine TC.region ?_
  refine TO.s rfl rfl rfl (StepS.assign rfl) ?_
  refine TO.s rfl rfl rfl (StepS.assign rfl) ?_
  refine TO.code ?_
  refine TC.k ?_
  refine TC.k ?_
  refine TC.region ?_
  refine TO.s rfl rfl rfl (StepS.move rfl) ?_
  obtain ⟨r1, hc2, hm⟩ := bind_some hm
  refine TO.q rfl rfl rfl (StepQ.call kcallB_55_true rfl rfl (fun _ st => C55 e0 hc2 st)) ?_
  refine TO.s rfl rfl rfl (StepS.assign rfl) ?_
  refine TO.code ?_
  refine TC.k ?_
  refine TC.region ?_
  refine TO.s rfl rfl rfl (StepS.move rfl) ?_
  refine TO.s rfl rfl rfl (StepS.cmp rfl rfl rfl) ?_
  refine TO.code ?_
  refine TC.cond rfl (fun hc3 => ?_) (fun hc3 => ?_)
  · replace hm := cond_t hc3 hm
    refine TC.k ?_
    refine TC.region ?_
    refine TO.s rfl rfl rfl (StepS.move rfl) ?_
    refine TO.s rfl rfl rfl (StepS.assign rfl) ?_
    refine TO.s rfl rfl rfl (StepS.assign rfl) ?_
    refine TO.code ?_
    cases hm
    refine TC.ret fun a w e s => ?_
    refine FRet.mk2 (P := Try.prog) (fn := Try.f30) (t := 2) (u := 3) e rfl rfl rfl ?_
    refine ⟨_, _, rfl, ⟨(.slice none 0 0), rfl, rfl⟩, ?_⟩
    refine s.mono fun _ s => ?_
    replace s := Sat.nilS (e := 3) (sz := 1) (f := cI) s
    exact s
  · replace hm := cond_f hc3 hm
    refine TC.skipk ?_
    refine TC.k ?_
    refine TC.k ?_
    refine TC.region ?_
    refine TO.s rfl rfl rfl (StepS.move rfl) ?_
    refine TO.s rfl rfl rfl (StepS.lenm rfl e0 ksliceB_22_3_1_true rfl) ?_
    refine TO.s rfl rfl rfl (StepS.cmp rfl rfl rfl) ?_
    refine TO.code ?_
    refine TC.cond rfl (fun hc4 => ?_) (fun hc4 => ?_)
    · replace hm := cond_t hc4 hm
      refine TC.k ?_
      refine TC.region ?_
      refine TO.s rfl rfl rfl (StepS.move rfl) ?_
      obtain ⟨r5, hc6, hm⟩ := bind_some hm
      refine TO.q rfl rfl rfl (StepQ.call kcallB_56_true rfl rfl (fun _ st => C56 e0 hc6 st)) ?_
      refine TO.litS (f := cI) ([r5] : List Int) kelemB_22_3_1_8_true kinfo_3_bind_zero_some_I_0 rfl rfl (fun _ => rfl) rfl rfl (by kernel_rfl) rfl fun v7 => ?_
      refine TO.s rfl rfl rfl (StepS.assign rfl) ?_
      refine TO.s rfl rfl rfl (StepS.assign rfl) ?_
      refine TO.code ?_
      cases hm
      refine TC.ret fun a w e s => ?_
      refine FRet.mk2 (P := Try.prog) (fn := Try.f30) (t := 2) (u := 3) e rfl rfl rfl ?_
      refine ⟨_, _, rfl, ⟨(v7), rfl, rfl⟩, ?_⟩
      refine s.mono fun _ s => ?_
      replace s := Sat.front 0 rfl s
      exact s
    · replace hm := cond_f hc4 hm
      refine TC.skipk ?_
      refine TC.k ?_
      refine TC.region ?_
      refine TO.s rfl rfl rfl (StepS.move rfl) ?_
      obtain ⟨r9, hc10, hm⟩ := bind_some hm
      refine TO.callO kcallB_57_true rfl rfl rfl (fun _ st => C57 e0 hc10 st) ?_
      rintro v11 _ ⟨_, rfl, rfl⟩
      refine TO.s rfl rfl rfl (StepS.assign rfl) ?_
      refine TO.s rfl rfl rfl (StepS.assign rfl) ?_
      refine TO.code ?_
      cases hm
      refine TC.ret fun a w e s => ?_
      refine FRet.mk2 (P := Try.prog) (fn := Try.f30) (t := 2) (u := 3) e rfl rfl rfl ?_
      refine ⟨_, _, rfl, ⟨(v11), rfl, rfl⟩, ?_⟩
      refine s.mono fun _ s => ?_
      replace s := Sat.front 0 rfl s
      exact s

set_option maxRecDepth 100000 in
theorem C31 {B : World} {L : List HP} {a0 : List Int} {h0 : Value} {r0 : Int} (e0 : Ent L (Rd 1 h0 (a0.map cI))) (hm : F31 a0 = some r0) {w : World} (st : St B L w) : Calls Try.prog 31 #[h0] w (fun e w' => (e = .returned (I r0) ∧ St B (L) w')) := by
  refine calls_of (N := 33) (L := L) (args := [h0]) Try.func31 rfl rfl rfl ?_ st
  dsimp only [F31] at hm
  refine TC.k ?_
  refine TC.region ?_
  refine TO.s rfl rfl rfl (StepS.assign rfl) ?_
  refine TO.code ?_
  refine TC.k ?_
  refine TC.k ?_
  refine TC.region ?_
  refine TO.s rfl rfl rfl (StepS.move rfl) ?_
  refine TO.s rfl rfl rfl (StepS.lenm rfl e0 ksliceB_22_3_1_true rfl) ?_
  refine TO.s rfl rfl rfl (StepS.cmp rfl rfl rfl) ?_
  refine TO.s rfl rfl rfl (StepS.move rfl) ?_
  refine TO.mid1 4 12 (.bool ((decide ((a0.length : Int) < 1)) || (decide ((a0.length : Int) > 12)))) ?_ ?_
  · refine bcase ((decide ((a0.length : Int) < 1))) (fun hb1 => ?_) (fun hb1 => ?_)
    · refine TO.skip rfl rfl rfl (skipT hb1) rfl rfl ?_
      refine TO.skip rfl rfl rfl (skipT hb1) rfl rfl ?_
      refine TO.skip rfl rfl rfl (skipT hb1) rfl rfl ?_
      refine TO.s rfl rfl rfl (StepS.pickT rfl hb1 rfl) ?_
      exact TO.up1 4 0 rfl rfl (by rw [hb1]; rfl) rfl
    · refine TO.sw rfl rfl rfl hb1 rfl rfl (StepS.move rfl) ?_
      refine TO.sw rfl rfl rfl hb1 rfl rfl (StepS.lenm rfl e0 ksliceB_22_3_1_true rfl) ?_
      refine TO.sw rfl rfl rfl hb1 rfl rfl (StepS.cmp rfl rfl rfl) ?_
      refine TO.s rfl rfl rfl (StepS.pickF rfl hb1 rfl) ?_
      exact TO.up1 4 0 rfl rfl (by rw [hb1]; rfl) rfl
  refine TO.code ?_
  refine TC.cond rfl (fun hc2 => ?_) (fun hc2 => ?_)
  · replace hm := cond_t hc2 hm
    refine TC.k ?_
    refine TC.region ?_
    refine TO.s rfl rfl rfl (StepS.assign rfl) ?_
    refine TO.code ?_
    cases hm
    refine TC.ret fun a w e s => ?_
    refine FRet.mk1 (P := Try.prog) (fn := Try.f31) (t := 2) e rfl rfl ?_
    exact ⟨rfl, s.mono fun _ => Sat.dropN 0⟩
  · replace hm := cond_f hc2 hm
    refine TC.skipk ?_
    refine TC.k ?_
    refine TC.k ?_
    refine TC.region ?_
    refine TO.s rfl rfl rfl (StepS.assign rfl) ?_
    refine TO.code ?_
    obtain ⟨o5, hw6, hm⟩ := bind_some hm
    refine TC.loop hw6 (fun x3 => fun a w => Mid 33 B [(0, h0), (3, I x3)] (L) a w) (fun _ => fun a w => Mid 33 B [] (L) a w) (fun r0 => FRet Try.prog Try.f31 (fun e w' => (e = .returned (I r0) ∧ St B (L) w'))) ?_ ?_ ?_ ?_
    · rintro x3 o5r hb7 a w ⟨he, hs⟩
      dsimp only [F31_L0] at hb7
      refine TC.use ?_ he hs
      refine TC.k ?_
      refine TC.k ?_
      refine TC.region ?_
      refine TO.s rfl rfl rfl (StepS.move rfl) ?_
      refine TO.s rfl rfl rfl (StepS.move rfl) ?_
      refine TO.s rfl rfl rfl (StepS.lenm rfl e0 ksliceB_22_3_1_true rfl) ?_
      refine TO.s rfl rfl rfl (StepS.cmp rfl rfl rfl) ?_
      refine TO.code ?_
      refine TC.cond rfl (fun hc8 => ?_) (fun hc8 => ?_)
      · replace hb7 := cond_t hc8 hb7
        refine TC.skipk ?_
        refine TC.k ?_
        refine TC.block ?_
        refine TC.k ?_
        refine TC.region ?_
        refine TO.s rfl rfl rfl (StepS.assign rfl) ?_
        refine TO.code ?_
        obtain ⟨o11, hw12, hb7⟩ := bind_some hb7
        refine TC.loop hw12 (fun x9 => fun a w => Mid 33 B [(0, h0), (3, I x3), (4, I x9)] (L) a w) (fun _ => fun a w => Mid 33 B [(0, h0), (3, I x3)] (L) a w) (fun r0 => FRet Try.prog Try.f31 (fun e w' => (e = .returned (I r0) ∧ St B (L) w'))) ?_ ?_ ?_ ?_
        · rintro x9 o11r hb13 a w ⟨he, hs⟩
          dsimp only [F31_L1] at hb13
          refine TC.use ?_ he hs
          refine TC.k ?_
          refine TC.k ?_
          refine TC.region ?_
          refine TO.s rfl rfl rfl (StepS.move rfl) ?_
          refine TO.s rfl rfl rfl (StepS.move rfl) ?_
          refine TO.s rfl rfl rfl (StepS.cmp rfl rfl rfl) ?_
          refine TO.code ?_
          refine TC.cond rfl (fun hc14 => ?_) (fun hc14 => ?_)
          · replace hb13 := cond_t hc14 hb13
            refine TC.skipk ?_
            refine TC.k ?_
            refine TC.block ?_
            refine TC.k ?_
            refine TC.region_still kfollows_mixedOrders_true (by kernel_rfl) ?_
            refine TS.s rfl rfl rfl (StepS.move rfl) ?_
            refine TS.s rfl rfl rfl (StepS.move rfl) ?_
            obtain ⟨x15, hx16, hb13⟩ := bind_some hb13
            refine TS.s rfl rfl rfl (StepS.idx rfl rfl e0 ksliceB_22_3_1_true (idx_spec hx16).1 (idxm_lt hx16)) ?_
            refine TS.s rfl rfl rfl (StepS.ld0 rfl e0 kscalB_3_true rfl (idxm hx16) rfl) ?_
            refine TS.s rfl rfl rfl (StepS.move rfl) ?_
            refine TS.s rfl rfl rfl (StepS.move rfl) ?_
            obtain ⟨x17, hx18, hb13⟩ := bind_some hb13
            refine TS.s rfl rfl rfl (StepS.idx rfl rfl e0 ksliceB_22_3_1_true (idx_spec hx18).1 (idxm_lt hx18)) ?_
            refine TS.s rfl rfl rfl (StepS.ld0 rfl e0 kscalB_3_true rfl (idxm hx18) rfl) ?_
            refine TS.s rfl rfl rfl (StepS.cmp rfl rfl rfl) ?_
            refine TS.code ?_
            refine TC.cond rfl (fun hc19 => ?_) (fun hc19 => ?_)
            · replace hb13 := cond_t hc19 hb13
              refine TC.k ?_
              refine TC.region ?_
              refine TO.s rfl rfl rfl (StepS.assign rfl) ?_
              refine TO.code ?_
              cases hb13
              refine TC.ret fun a w e s => ?_
              refine FRet.mk1 (P := Try.prog) (fn := Try.f31) (t := 2) e rfl rfl ?_
              exact ⟨rfl, s.mono fun _ => Sat.dropN 0⟩
            · replace hb13 := cond_f hc19 hb13
              refine TC.skipk ?_
              refine TC.region ?_
              refine TO.s rfl rfl rfl (StepS.move rfl) ?_
              refine TO.s rfl rfl rfl (StepS.ari rfl rfl rfl) ?_
              refine TO.s rfl rfl rfl (StepS.assign rfl) ?_
              cases hb13
              refine TO.nil fun a w e s => ?_
              exact ⟨e.sub (lk_of_allIn ⟨rfl, rfl, rfl, trivial⟩), s⟩
          · replace hb13 := cond_f hc14 hb13
            cases hb13
            refine TC.exit rfl fun a w e s => ?_
            exact ⟨e.sub (lk_of_allIn ⟨rfl, rfl, trivial⟩), s⟩
        · exact fun a w e s => ⟨e.sub (lk_of_allIn ⟨rfl, rfl, rfl, trivial⟩), s⟩
        · rintro _ rfl a w ⟨he, hs⟩
          dsimp only [Ctl.on] at hb7
          refine TC.use ?_ he hs
          refine TC.region ?_
          refine TO.s rfl rfl rfl (StepS.move rfl) ?_
          refine TO.s rfl rfl rfl (StepS.ari rfl rfl rfl) ?_
          refine TO.s rfl rfl rfl (StepS.assign rfl) ?_
          cases hb7
          refine TO.nil fun a w e s => ?_
          exact ⟨e.sub (lk_of_allIn ⟨rfl, rfl, trivial⟩), s⟩
        · rintro r rfl
          cases hb7
          exact fun a w h => h
      · replace hb7 := cond_f hc8 hb7
        cases hb7
        refine TC.exit rfl fun a w e s => ?_
        exact ⟨e.sub (lk_of_allIn trivial), s⟩
    · exact fun a w e s => ⟨e.sub (lk_of_allIn ⟨rfl, rfl, trivial⟩), s⟩
    · rintro _ rfl a w ⟨he, hs⟩
      dsimp only [Ctl.on] at hm
      refine TC.use ?_ he hs
      refine TC.k ?_
      refine TC.region ?_
      refine TO.s rfl rfl rfl (StepS.assign rfl) ?_
      refine TO.code ?_
      cases hm
      refine TC.ret fun a w e s => ?_
      refine FRet.mk1 (P := Try.prog) (fn := Try.f31) (t := 2) e rfl rfl ?_
      exact ⟨rfl, s.mono fun _ => Sat.dropN 0⟩
    · rintro r rfl
      cases hm
      exact fun a w h => h

set_option maxRecDepth 100000 in
theorem C32 {B : World} {L : List HP} {a0 : List Int} {h0 : Value} {r0 : List Int} (e0 : Ent L (Rd 1 h0 (a0.map cI))) (hm : F32 a0 = some r0) {w : World} (st : St B L w) : Calls Try.prog 32 #[h0] w (fun e w' => ∃ v M, e = .returned v ∧ (∃ (qr0 : Value), v = qr0 ∧ M = (OwnS 3 1 qr0 (r0.map cI) :: L)) ∧ St B M w') := by
  refine calls_of (N := 70) (L := L) (args := [h0]) Try.func32 rfl rfl rfl ?_ st
  dsimp only [F32] at hm
  refine TC.k ?_
  refine TC.region ?_
  refine TO.s rfl rfl rfl (StepS.assign rfl) ?_
  refine TO.code ?_
  refine TC.k ?_
  refine TC.region ?_
  refine TO.s rfl rfl rfl (StepS.move rfl) ?_
  refine TO.s rfl rfl rfl (StepS.lenm rfl e0 ksliceB_22_3_1_true rfl) ?_
  refine TO.s rfl rfl rfl (StepS.assign rfl) ?_
  refine TO.code ?_
  refine TC.k ?_
  refine TC.k ?_
  refine TC.region ?_
  refine TO.s rfl rfl rfl (StepS.move rfl) ?_
  refine TO.s rfl rfl rfl (StepS.cmp rfl rfl rfl) ?_
  refine TO.code ?_
  refine TC.cond rfl (fun hc1 => ?_) (fun hc1 => ?_)
  · replace hm := cond_t hc1 hm
    refine TC.k ?_
    refine TC.region ?_
    refine TO.s rfl rfl rfl (StepS.move rfl) ?_
    obtain ⟨x2, hx3, hm⟩ := bind_some hm
    refine TO.s rfl rfl rfl (StepS.idx rfl rfl e0 ksliceB_22_3_1_true (idx_spec hx3).1 (idxm_lt hx3)) ?_
    refine TO.s rfl rfl rfl (StepS.ld0 rfl e0 kscalB_3_true rfl (idxm hx3) rfl) ?_
    refine TO.litS (f := cI) ([x2] : List Int) kelemB_22_3_1_8_true kinfo_3_bind_zero_some_I_0 rfl rfl (fun _ => rfl) rfl rfl (by kernel_rfl) rfl fun v4 => ?_
    refine TO.s rfl rfl rfl (StepS.assign rfl) ?_
    refine TO.code ?_
    cases hm
    refine TC.ret fun a w e s => ?_
    refine FRet.mk1 (P := Try.prog) (fn := Try.f32) (t := 2) e rfl rfl ?_
    refine ⟨_, _, rfl, ⟨(v4), rfl, rfl⟩, ?_⟩
    refine s.mono fun _ s => ?_
    replace s := Sat.front 0 rfl s
    exact s
  · replace hm := cond_f hc1 hm
    refine TC.skipk ?_
    refine TC.k ?_
    refine TC.k ?_
    refine TC.region ?_
    refine TO.s rfl rfl rfl (StepS.move rfl) ?_
    refine TO.s rfl rfl rfl (StepS.cmp rfl rfl rfl) ?_
    refine TO.code ?_
    refine TC.cond rfl (fun hc6 => ?_) (fun hc6 => ?_)
    · replace hm := cond_t hc6 hm
      refine TC.k ?_
      refine TC.k ?_
      refine TC.region_still kfollows_mixedOrders_true (by kernel_rfl) ?_
      refine TS.s rfl rfl rfl (StepS.move rfl) ?_
      obtain ⟨x7, hx8, hm⟩ := bind_some hm
      refine TS.s rfl rfl rfl (StepS.idx rfl rfl e0 ksliceB_22_3_1_true (idx_spec hx8).1 (idxm_lt hx8)) ?_
      refine TS.s rfl rfl rfl (StepS.ld0 rfl e0 kscalB_3_true rfl (idxm hx8) rfl) ?_
      refine TS.s rfl rfl rfl (StepS.move rfl) ?_
      obtain ⟨x9, hx10, hm⟩ := bind_some hm
      refine TS.s rfl rfl rfl (StepS.idx rfl rfl e0 ksliceB_22_3_1_true (idx_spec hx10).1 (idxm_lt hx10)) ?_
      refine TS.s rfl rfl rfl (StepS.ld0 rfl e0 kscalB_3_true rfl (idxm hx10) rfl) ?_
      refine TS.s rfl rfl rfl (StepS.cmp rfl rfl rfl) ?_
      refine TS.code ?_
      refine TC.cond rfl (fun hc11 => ?_) (fun hc11 => ?_)
      · replace hm := cond_t hc11 hm
        refine TC.k ?_
        refine TC.region ?_
        refine TO.s rfl rfl rfl (StepS.move rfl) ?_
        obtain ⟨x12, hx13, hm⟩ := bind_some hm
        refine TO.s rfl rfl rfl (StepS.idx rfl rfl e0 ksliceB_22_3_1_true (idx_spec hx13).1 (idxm_lt hx13)) ?_
        refine TO.s rfl rfl rfl (StepS.ld0 rfl e0 kscalB_3_true rfl (idxm hx13) rfl) ?_
        refine TO.litS (f := cI) ([x12] : List Int) kelemB_22_3_1_8_true kinfo_3_bind_zero_some_I_0 rfl rfl (fun _ => rfl) rfl rfl (by kernel_rfl) rfl fun v14 => ?_
        refine TO.s rfl rfl rfl (StepS.assign rfl) ?_
        refine TO.code ?_
        cases hm
        refine TC.ret fun a w e s => ?_
        refine FRet.mk1 (P := Try.prog) (fn := Try.f32) (t := 2) e rfl rfl ?_
        refine ⟨_, _, rfl, ⟨(v14), rfl, rfl⟩, ?_⟩
        refine s.mono fun _ s => ?_
        replace s := Sat.front 0 rfl s
        exact s
      · replace hm := cond_f hc11 hm
        refine TC.skipk ?_
        refine TC.k ?_
        refine TC.region ?_
        refine TO.s rfl rfl rfl (StepS.move rfl) ?_
        obtain ⟨x16, hx17, hm⟩ := bind_some hm
        refine TO.s rfl rfl rfl (StepS.idx rfl rfl e0 ksliceB_22_3_1_true (idx_spec hx17).1 (idxm_lt hx17)) ?_
        refine TO.s rfl rfl rfl (StepS.ld0 rfl e0 kscalB_3_true rfl (idxm hx17) rfl) ?_
        refine TO.litS (f := cI) ([x16] : List Int) kelemB_22_3_1_8_true kinfo_3_bind_zero_some_I_0 rfl rfl (fun _ => rfl) rfl rfl (by kernel_rfl) rfl fun v18 => ?_
        refine TO.s rfl rfl rfl (StepS.assign rfl) ?_
        refine TO.code ?_
        cases hm
        refine TC.ret fun a w e s => ?_
        refine FRet.mk1 (P := Try.prog) (fn := Try.f32) (t := 2) e rfl rfl ?_
        refine ⟨_, _, rfl, ⟨(v18), rfl, rfl⟩, ?_⟩
        refine s.mono fun _ s => ?_
        replace s := Sat.front 0 rfl s
        exact s
    · replace hm := cond_f hc6 hm
      refine TC.skipk ?_
      refine TC.k ?_
      refine TC.region ?_
      refine TO.s rfl rfl rfl (StepS.assign rfl) ?_
      refine TO.code ?_
      refine TC.k ?_
      refine TC.k ?_
      refine TC.region ?_
      refine TO.s rfl rfl rfl (StepS.assign rfl) ?_
      refine TO.code ?_
      obtain ⟨o31, hw32, hm⟩ := bind_some hm
      refine TC.loop hw32 (fun (y22, x23) => fun a w => ∃ v20 : Value, Mid 70 B [(0, h0), (3, I (a0.length : Int)), (4, v20), (5, I x23)] (OwnS 3 1 v20 (y22.map cI) :: L) a w) (fun y30 => fun a w => ∃ v28 : Value, Mid 70 B [(4, v28)] (OwnS 3 1 v28 (y30.map cI) :: L) a w) (fun (_ : Unit) _ _ => False) ?_ ?_ ?_ ?_
      · rintro ⟨y22, x23⟩ o31r hb33 a w ⟨v20, he, hs⟩
        dsimp only [F32_L0] at hb33
        refine TC.use ?_ he hs
        refine TC.k ?_
        refine TC.k ?_
        refine TC.region ?_
        refine TO.s rfl rfl rfl (StepS.move rfl) ?_
        refine TO.s rfl rfl rfl (StepS.move rfl) ?_
        refine TO.s rfl rfl rfl (StepS.cmp rfl rfl rfl) ?_
        refine TO.code ?_
        refine TC.cond rfl (fun hc34 => ?_) (fun hc34 => ?_)
        · replace hb33 := cond_t hc34 hb33
          refine TC.skipk ?_
          refine TC.k ?_
          obtain ⟨y35, hj37, hb33⟩ := bind_some hb33
          refine TC.cutM (fun a w => ∃ v36 : Value, Mid 70 B [(0, h0), (3, I (a0.length : Int)), (4, v36), (5, I x23)] (OwnS 3 1 v36 (y35.map cI) :: L) a w) ?_ ?_
          · refine TC.block ?_
            refine TC.k ?_
            refine TC.region ?_
            refine TO.s rfl rfl rfl (StepS.move rfl) ?_
            refine TO.s rfl rfl rfl (StepS.move rfl) ?_
            refine TO.s rfl rfl rfl (StepS.move rfl) ?_
            refine TO.s rfl rfl rfl (StepS.ari rfl rfl rfl) ?_
            refine TO.s rfl rfl rfl (StepS.ari rfl rfl rfl) ?_
            refine TO.s rfl rfl rfl (StepS.move rfl) ?_
            obtain ⟨u39, hd38, hj37⟩ := bind_some hj37
            refine TO.s rfl rfl rfl (StepS.rem rfl rfl (nz_spec hd38)) ?_
            obtain ⟨x40, hx41, hj37⟩ := bind_some hj37
            refine TO.s rfl rfl rfl (StepS.idx rfl rfl e0.tl ksliceB_22_3_1_true (idx_spec hx41).1 (idxm_lt hx41)) ?_
            refine TO.s rfl rfl rfl (StepS.ld0 rfl e0.tl kscalB_3_true rfl (idxm hx41) rfl) ?_
            refine TO.s rfl rfl rfl (StepS.assign rfl) ?_
            refine TO.code ?_
            refine TC.k ?_
            refine TC.region ?_
            refine TO.s rfl rfl rfl (StepS.move rfl) ?_
            refine TO.s rfl rfl rfl (StepS.move rfl) ?_
            refine TO.s rfl rfl rfl (StepS.move rfl) ?_
            obtain ⟨x42, hx43, hj37⟩ := bind_some hj37
            refine TO.s rfl rfl rfl (StepS.idx rfl rfl e0.tl ksliceB_22_3_1_true (idx_spec hx43).1 (idxm_lt hx43)) ?_
            refine TO.s rfl rfl rfl (StepS.ld0 rfl e0.tl kscalB_3_true rfl (idxm hx43) rfl) ?_
            refine TO.s rfl rfl rfl (StepS.cmp rfl rfl rfl) ?_
            refine TO.s rfl rfl rfl (StepS.move rfl) ?_
            obtain ⟨b45, hj46, hj37⟩ := bind_some hj37
            refine TO.mid1 12 64 (.bool b45) ?_ ?_
            · refine bcase ((decide (x40 > x42))) (fun hb44 => ?_) (fun hb44 => ?_)
              · replace hj46 := cond_t hb44 hj46
                refine TO.sw rfl rfl rfl hb44 rfl rfl (StepS.move rfl) ?_
                refine TO.sw rfl rfl rfl hb44 rfl rfl (StepS.move rfl) ?_
                refine TO.sw rfl rfl rfl hb44 rfl rfl (StepS.move rfl) ?_
                refine TO.sw rfl rfl rfl hb44 rfl rfl (StepS.move rfl) ?_
                refine TO.sw rfl rfl rfl hb44 rfl rfl (StepS.ari rfl rfl rfl) ?_
                refine TO.sw rfl rfl rfl hb44 rfl rfl (StepS.ari rfl rfl rfl) ?_
                refine TO.sw rfl rfl rfl hb44 rfl rfl (StepS.move rfl) ?_
                obtain ⟨u48, hd47, hj46⟩ := bind_some hj46
                refine TO.sw rfl rfl rfl hb44 rfl rfl (StepS.rem rfl rfl (nz_spec hd47)) ?_
                obtain ⟨x49, hx50, hj46⟩ := bind_some hj46
                refine TO.sw rfl rfl rfl hb44 rfl rfl (StepS.idx rfl rfl e0.tl ksliceB_22_3_1_true (idx_spec hx50).1 (idxm_lt hx50)) ?_
                refine TO.sw rfl rfl rfl hb44 rfl rfl (StepS.ld0 rfl e0.tl kscalB_3_true rfl (idxm hx50) rfl) ?_
                refine TO.sw rfl rfl rfl hb44 rfl rfl (StepS.cmp rfl rfl rfl) ?_
                cases hj46
                refine TO.s rfl rfl rfl (StepS.pickT rfl hb44 rfl) ?_
                exact TO.up1 12 0 rfl rfl rfl rfl
              · replace hj46 := cond_f hb44 hj46
                cases hj46
                refine TO.skip rfl rfl rfl (skipF hb44) rfl rfl ?_
                refine TO.skip rfl rfl rfl (skipF hb44) rfl rfl ?_
                refine TO.skip rfl rfl rfl (skipF hb44) rfl rfl ?_
                refine TO.skip rfl rfl rfl (skipF hb44) rfl rfl ?_
                refine TO.skip rfl rfl rfl (skipF hb44) rfl rfl ?_
                refine TO.skip rfl rfl rfl (skipF hb44) rfl rfl ?_
                refine TO.skip rfl rfl rfl (skipF hb44) rfl rfl ?_
                refine TO.skip rfl rfl rfl (skipF hb44) rfl rfl ?_
                refine TO.skip rfl rfl rfl (skipF hb44) rfl rfl ?_
                refine TO.skip rfl rfl rfl (skipF hb44) rfl rfl ?_
                refine TO.skip rfl rfl rfl (skipF hb44) rfl rfl ?_
                refine TO.s rfl rfl rfl (StepS.pickF rfl hb44 rfl) ?_
                exact TO.up1 12 0 rfl rfl rfl rfl
            refine TO.code ?_
            refine TC.cond rfl (fun hc51 => ?_) (fun hc51 => ?_)
            · replace hj37 := cond_t hc51 hj37
              refine TC.region ?_
              refine TO.s rfl rfl rfl (StepS.move rfl) ?_
              refine TO.s rfl rfl rfl (StepS.move rfl) ?_
              refine TO.litS (f := cI) ([x40] : List Int) kelemB_22_3_1_8_true kinfo_3_bind_zero_some_I_0 rfl rfl (fun _ => rfl) rfl rfl (by kernel_rfl) rfl fun v52 => ?_
              obtain ⟨y54, hk55, hj37⟩ := bind_some hj37
              refine TO.app (k := 1) (f := cI) kelemB_22_3_1_8_true (by decide) rfl rfl rfl (OwnS.rd (Ent.at 0 rfl)) hk55 (fun x c hc => by simp [Value.oneCell'] at hc ⊢; first | (obtain rfl := hc; rfl) | (rcases hc with rfl <;> rfl)) rfl rfl fun v56 => ?_
              refine TO.s rfl rfl rfl (StepS.assign rfl) ?_
              cases hj37
              refine TO.nil fun a w e s => ?_
              exact ⟨v56, e.sub (lk_of_allIn ⟨rfl, rfl, rfl, rfl, trivial⟩), s.mono fun _ => Sat.dropN 1⟩
            · replace hj37 := cond_f hc51 hj37
              cases hj37
              refine TC.skip fun a w e s => ?_
              exact ⟨v20, e.sub (lk_of_allIn ⟨rfl, rfl, rfl, rfl, trivial⟩), s⟩
          · intro a w ⟨v36, he, hs⟩
            refine TC.use ?_ he hs
            refine TC.region ?_
            refine TO.s rfl rfl rfl (StepS.move rfl) ?_
            refine TO.s rfl rfl rfl (StepS.ari rfl rfl rfl) ?_
            refine TO.s rfl rfl rfl (StepS.assign rfl) ?_
            cases hb33
            refine TO.nil fun a w e s => ?_
            exact ⟨v36, e.sub (lk_of_allIn ⟨rfl, rfl, rfl, rfl, trivial⟩), s⟩
        · replace hb33 := cond_f hc34 hb33
          cases hb33
          refine TC.exit rfl fun a w e s => ?_
          exact ⟨v20, e.sub (lk_of_allIn ⟨rfl, trivial⟩), s⟩
      · exact fun a w e s => ⟨.slice none 0 0, e.sub (lk_of_allIn ⟨rfl, rfl, rfl, rfl, trivial⟩), s.mono fun _ s => (by replace s := Sat.nilS (e := 3) (sz := 1) (f := cI) s; exact s)⟩
      · rintro y30 rfl a w ⟨v28, he, hs⟩
        dsimp only [Ctl.on] at hm
        refine TC.use ?_ he hs
        refine TC.k ?_
        refine TC.region ?_
        refine TO.s rfl rfl rfl (StepS.move rfl) ?_
        refine TO.s rfl rfl rfl (StepS.assign rfl) ?_
        refine TO.code ?_
        cases hm
        refine TC.ret fun a w e s => ?_
        refine FRet.mk1 (P := Try.prog) (fn := Try.f32) (t := 2) e rfl rfl ?_
        refine ⟨_, _, rfl, ⟨(v28), rfl, rfl⟩, ?_⟩
        refine s.mono fun _ s => ?_
        replace s := Sat.front 0 rfl s
        exact s
      · rintro r rfl
        exact fun a w h => h.elim

set_option maxRecDepth 100000 in
theorem C29 {B : World} {L : List HP} {a0 : List Int} {a1 : List Int} {h0 : Value} {h1 : Value} {r0 : Bool} (e0 : Ent L (Rd 1 h0 (a0.map cI))) (e1 : Ent L (Rd 1 h1 (a1.map cI))) (hm : F29 a0 a1 = some r0) {w : World} (st : St B L w) : Calls Try.prog 29 #[h0, h1] w (fun e w' => (e = .returned (.bool r0) ∧ St B (L) w')) := by
  refine calls_of (N := 26) (L := L) (args := [h0, h1]) Try.func29 rfl rfl rfl ?_ st
  dsimp only [F29] at hm
  refine TC.k ?_
  refine TC.region ?_
  refine TO.s rfl rfl rfl (StepS.assign rfl) ?_
  refine TO.code ?_
  refine TC.k ?_
  refine TC.k ?_
  refine TC.region ?_
  refine TO.s rfl rfl rfl (StepS.move rfl) ?_
  refine TO.s rfl rfl rfl (StepS.lenm rfl e0 ksliceB_22_3_1_true rfl) ?_
  refine TO.s rfl rfl rfl (StepS.move rfl) ?_
  refine TO.s rfl rfl rfl (StepS.lenm rfl e1 ksliceB_22_3_1_true rfl) ?_
  refine TO.s rfl rfl rfl (StepS.cmp rfl rfl rfl) ?_
  refine TO.code ?_
  refine TC.cond rfl (fun hc1 => ?_) (fun hc1 => ?_)
  · replace hm := cond_t hc1 hm
    refine TC.k ?_
    refine TC.region ?_
    refine TO.s rfl rfl rfl (StepS.assign rfl) ?_
    refine TO.code ?_
    cases hm
    refine TC.ret fun a w e s => ?_
    refine FRet.mk1 (P := Try.prog) (fn := Try.f29) (t := 4) e rfl rfl ?_
    exact ⟨rfl, s.mono fun _ => Sat.dropN 0⟩
  · replace hm := cond_f hc1 hm
    refine TC.skipk ?_
    refine TC.k ?_
    refine TC.k ?_
    refine TC.region ?_
    refine TO.s rfl rfl rfl (StepS.assign rfl) ?_
    refine TO.code ?_
    obtain ⟨o4, hw5, hm⟩ := bind_some hm
    refine TC.loop hw5 (fun x2 => fun a w => Mid 26 B [(0, h0), (1, h1), (5, I x2)] (L) a w) (fun _ => fun a w => Mid 26 B [] (L) a w) (fun r0 => FRet Try.prog Try.f29 (fun e w' => (e = .returned (.bool r0) ∧ St B (L) w'))) ?_ ?_ ?_ ?_
    · rintro x2 o4r hb6 a w ⟨he, hs⟩
      dsimp only [F29_L0] at hb6
      refine TC.use ?_ he hs
      refine TC.k ?_
      refine TC.k ?_
      refine TC.region ?_
      refine TO.s rfl rfl rfl (StepS.move rfl) ?_
      refine TO.s rfl rfl rfl (StepS.move rfl) ?_
      refine TO.s rfl rfl rfl (StepS.lenm rfl e0 ksliceB_22_3_1_true rfl) ?_
      refine TO.s rfl rfl rfl (StepS.cmp rfl rfl rfl) ?_
      refine TO.code ?_
      refine TC.cond rfl (fun hc7 => ?_) (fun hc7 => ?_)
      · replace hb6 := cond_t hc7 hb6
        refine TC.skipk ?_
        refine TC.k ?_
        refine TC.block ?_
        refine TC.k ?_
        refine TC.region_still kfollows_mixedOrders_true (by kernel_rfl) ?_
        refine TS.s rfl rfl rfl (StepS.move rfl) ?_
        refine TS.s rfl rfl rfl (StepS.move rfl) ?_
        obtain ⟨x8, hx9, hb6⟩ := bind_some hb6
        refine TS.s rfl rfl rfl (StepS.idx rfl rfl e0 ksliceB_22_3_1_true (idx_spec hx9).1 (idxm_lt hx9)) ?_
        refine TS.s rfl rfl rfl (StepS.ld0 rfl e0 kscalB_3_true rfl (idxm hx9) rfl) ?_
        refine TS.s rfl rfl rfl (StepS.move rfl) ?_
        refine TS.s rfl rfl rfl (StepS.move rfl) ?_
        obtain ⟨x10, hx11, hb6⟩ := bind_some hb6
        refine TS.s rfl rfl rfl (StepS.idx rfl rfl e1 ksliceB_22_3_1_true (idx_spec hx11).1 (idxm_lt hx11)) ?_
        refine TS.s rfl rfl rfl (StepS.ld0 rfl e1 kscalB_3_true rfl (idxm hx11) rfl) ?_
        refine TS.s rfl rfl rfl (StepS.cmp rfl rfl rfl) ?_
        refine TS.code ?_
        refine TC.cond rfl (fun hc12 => ?_) (fun hc12 => ?_)
        · replace hb6 := cond_t hc12 hb6
          refine TC.k ?_
          refine TC.region ?_
          refine TO.s rfl rfl rfl (StepS.assign rfl) ?_
          refine TO.code ?_
          cases hb6
          refine TC.ret fun a w e s => ?_
          refine FRet.mk1 (P := Try.prog) (fn := Try.f29) (t := 4) e rfl rfl ?_
          exact ⟨rfl, s.mono fun _ => Sat.dropN 0⟩
        · replace hb6 := cond_f hc12 hb6
          refine TC.skipk ?_
          refine TC.region ?_
          refine TO.s rfl rfl rfl (StepS.move rfl) ?_
          refine TO.s rfl rfl rfl (StepS.ari rfl rfl rfl) ?_
          refine TO.s rfl rfl rfl (StepS.assign rfl) ?_
          cases hb6
          refine TO.nil fun a w e s => ?_
          exact ⟨e.sub (lk_of_allIn ⟨rfl, rfl, rfl, trivial⟩), s⟩
      · replace hb6 := cond_f hc7 hb6
        cases hb6
        refine TC.exit rfl fun a w e s => ?_
        exact ⟨e.sub (lk_of_allIn trivial), s⟩
    · exact fun a w e s => ⟨e.sub (lk_of_allIn ⟨rfl, rfl, rfl, trivial⟩), s⟩
    · rintro _ rfl a w ⟨he, hs⟩
      dsimp only [Ctl.on] at hm
      refine TC.use ?_ he hs
      refine TC.k ?_
      refine TC.region ?_
      refine TO.s rfl rfl rfl (StepS.assign rfl) ?_
      refine TO.code ?_
      cases hm
      refine TC.ret fun a w e s => ?_
      refine FRet.mk1 (P := Try.prog) (fn := Try.f29) (t := 4) e rfl rfl ?_
      exact ⟨rfl, s.mono fun _ => Sat.dropN 0⟩
    · rintro r rfl
      cases hm
      exact fun a w h => h

set_option maxRecDepth 100000 in
theorem C9 {B : World} {L : List HP} {a0 : List Int} {h0 : Value} {r0 : Bool} (e0 : Ent L (Rd 1 h0 (a0.map cI))) (hm : F9 a0 = some r0) {w : World} (st : St B L w) : Calls Try.prog 9 #[h0] w (fun e w' => (e = .returned (.bool r0) ∧ St B (L) w')) := by
  refine calls_of (N := 31) (L := L) (args := [h0]) Try.func9 rfl rfl rfl ?_ st
  dsimp only [F9] at hm
  refine TC.k ?_
  refine TC.region ?_
  refine TO.s rfl rfl rfl (StepS.assign rfl) ?_
  refine TO.code ?_
  refine TC.k ?_
  refine TC.region ?_
  refine TO.s rfl rfl rfl (StepS.move rfl) ?_
  obtain ⟨⟨r1, r2⟩, hc3, hm⟩ := bind_some hm
  refine TO.callO kcallB_30_true rfl rfl rfl (fun _ st => C30 e0 hc3 st) ?_
  rintro _ _ ⟨v4, rfl, rfl⟩
  refine TO.s rfl rfl rfl (StepS.move rfl) ?_
  refine TO.s rfl rfl rfl (StepS.extract rfl rfl) ?_
  refine TO.s rfl rfl rfl (StepS.extract rfl rfl) ?_
  refine TO.s rfl rfl rfl (StepS.assign rfl) ?_
  refine TO.s rfl rfl rfl (StepS.assign rfl) ?_
  refine TO.code ?_
  refine TC.k ?_
  refine TC.region ?_
  refine TO.s rfl rfl rfl (StepS.move rfl) ?_
  obtain ⟨r6, hc7, hm⟩ := bind_some hm
  refine TO.q rfl rfl rfl (StepQ.call kcallB_31_true rfl rfl (fun _ st => C31 e0.tl hc7 st)) ?_
  refine TO.s rfl rfl rfl (StepS.assign rfl) ?_
  refine TO.code ?_
  refine TC.k ?_
  refine TC.k ?_
  refine TC.region ?_
  refine TO.s rfl rfl rfl (StepS.move rfl) ?_
  refine TO.s rfl rfl rfl (StepS.cmp rfl rfl rfl) ?_
  refine TO.code ?_
  refine TC.cond rfl (fun hc8 => ?_) (fun hc8 => ?_)
  · replace hm := cond_t hc8 hm
    refine TC.k ?_
    refine TC.region ?_
    refine TO.s rfl rfl rfl (StepS.move rfl) ?_
    refine TO.s rfl rfl rfl (StepS.move rfl) ?_
    refine TO.s rfl rfl rfl (StepS.cmp rfl rfl rfl) ?_
    refine TO.s rfl rfl rfl (StepS.move rfl) ?_
    refine TO.mid1 4 22 (.bool ((r2 == r6) && ((r1.length : Int) == 0))) ?_ ?_
    · refine bcase ((r2 == r6)) (fun hb9 => ?_) (fun hb9 => ?_)
      · refine TO.sw rfl rfl rfl hb9 rfl rfl (StepS.move rfl) ?_
        refine TO.sw rfl rfl rfl hb9 rfl rfl (StepS.lenm rfl (OwnS.rd (Ent.at 0 rfl)) ksliceB_22_3_1_true rfl) ?_
        refine TO.sw rfl rfl rfl hb9 rfl rfl (StepS.cmp rfl rfl rfl) ?_
        refine TO.s rfl rfl rfl (StepS.pickT rfl hb9 rfl) ?_
        exact TO.up1 4 0 rfl rfl (by rw [hb9]; rfl) rfl
      · refine TO.skip rfl rfl rfl (skipF hb9) rfl rfl ?_
        refine TO.skip rfl rfl rfl (skipF hb9) rfl rfl ?_
        refine TO.skip rfl rfl rfl (skipF hb9) rfl rfl ?_
        refine TO.s rfl rfl rfl (StepS.pickF rfl hb9 rfl) ?_
        exact TO.up1 4 0 rfl rfl (by rw [hb9]; rfl) rfl
    refine TO.s rfl rfl rfl (StepS.assign rfl) ?_
    refine TO.code ?_
    cases hm
    refine TC.ret fun a w e s => ?_
    refine FRet.mk1 (P := Try.prog) (fn := Try.f9) (t := 2) e rfl rfl ?_
    exact ⟨rfl, s.mono fun _ => Sat.dropN 1⟩
  · replace hm := cond_f hc8 hm
    refine TC.skipk ?_
    refine TC.k ?_
    refine TC.region ?_
    refine TO.s rfl rfl rfl (StepS.move rfl) ?_
    refine TO.s rfl rfl rfl (StepS.cmp rfl rfl rfl) ?_
    refine TO.s rfl rfl rfl (StepS.move rfl) ?_
    obtain ⟨b11, hj12, hm⟩ := bind_some hm
    refine TO.mid1 5 30 (.bool b11) ?_ ?_
    · refine bcase ((r2 == 0)) (fun hb10 => ?_) (fun hb10 => ?_)
      · replace hj12 := cond_t hb10 hj12
        refine TO.sw rfl rfl rfl hb10 rfl rfl (StepS.move rfl) ?_
        refine TO.sw rfl rfl rfl hb10 rfl rfl (StepS.move rfl) ?_
        obtain ⟨r13, hc14, hj12⟩ := bind_some hj12
        refine TO.callOw rfl rfl hb10 kcallB_32_true rfl rfl rfl (fun _ st => C32 e0.tl hc14 st) ?_
        rintro v15 _ ⟨_, rfl, rfl⟩
        obtain ⟨r17, hc18, hj12⟩ := bind_some hj12
        refine TO.qw rfl rfl rfl hb10 rfl rfl (StepQ.call kcallB_29_true rfl rfl (fun _ st => C29 (OwnS.rd (Ent.at 1 rfl)) (OwnS.rd (Ent.at 0 rfl)) hc18 st)) ?_
        cases hj12
        refine TO.s rfl rfl rfl (StepS.pickT rfl hb10 rfl) ?_
        exact TO.up1 5 1 rfl rfl rfl rfl
      · replace hj12 := cond_f hb10 hj12
        cases hj12
        refine TO.skip rfl rfl rfl (skipF hb10) rfl rfl ?_
        refine TO.skip rfl rfl rfl (skipF hb10) rfl rfl ?_
        refine TO.skip rfl rfl rfl (skipF hb10) rfl rfl ?_
        refine TO.skip rfl rfl rfl (skipF hb10) rfl rfl ?_
        refine TO.s rfl rfl rfl (StepS.pickF rfl hb10 rfl) ?_
        exact TO.up1 5 0 rfl rfl rfl rfl
    refine TO.s rfl rfl rfl (StepS.assign rfl) ?_
    refine TO.code ?_
    cases hm
    refine TC.ret fun a w e s => ?_
    refine FRet.mk1 (P := Try.prog) (fn := Try.f9) (t := 2) e rfl rfl ?_
    exact ⟨rfl, s.mono fun _ => Sat.dropN 1⟩
end Go.Proofs.Ytdjmlbjkendobaa
