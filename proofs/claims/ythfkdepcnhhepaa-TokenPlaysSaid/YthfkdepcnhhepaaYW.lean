/-
  The walks: each Go function returns what its model says. Written by a program (gen.py).
-/
import Derived.Test.YthfkdepcnhhepaaProg
import Derived.KernelRfl
import Derived.Test.YthfkdepcnhhepaaKW
import Derived.Test.YthfkdepcnhhepaaXW
import Derived.Test.YthfkdepcnhhepaaYM
namespace Go.Proofs.Ythfkdepcnhhepaa
open Go Go.Bk
set_option linter.unusedVariables false
set_option linter.unnecessarySimpa false
theorem kcallB_87_true : callB Try.prog 87 = true := by kernel_rfl
theorem kcallB_123_true : callB Try.prog 123 = true := by kernel_rfl
theorem kcallB_49_true : callB Try.prog 49 = true := by kernel_rfl
theorem kscalB_200_true : scalB Try.prog 200 = true := by kernel_rfl
theorem kfieldB_203_1_1_true : fieldB Try.prog 203 1 1 = true := by kernel_rfl
theorem kunderlying_114_some_array_2_3 : Try.prog.underlying 114 = some (.array 2 3) := by kernel_rfl
theorem kunderlying_3_some_int_i64 : Try.prog.underlying 3 = some (.int .i64) := by kernel_rfl
theorem kinfo_114_bind_zero_some_agg_I_0_I_0 : (Try.prog.info? 114).bind (·.zero) = some (.agg #[I 0, I 0]) := by kernel_rfl
theorem ksizeB_114_2_true : sizeB Try.prog 114 2 = true := by kernel_rfl
theorem kfieldB_203_4_4_true : fieldB Try.prog 203 4 4 = true := by kernel_rfl
theorem kscalB_201_true : scalB Try.prog 201 = true := by kernel_rfl
theorem kaggB_114_2_true : aggB Try.prog 114 2 = true := by kernel_rfl
theorem kmapGB_201_114_115_true : mapGB Try.prog 201 114 115 = true := by kernel_rfl
theorem kfieldB_203_2_2_true : fieldB Try.prog 203 2 2 = true := by kernel_rfl
theorem kfieldB_203_3_3_true : fieldB Try.prog 203 3 3 = true := by kernel_rfl
theorem kfieldB_203_0_0_true : fieldB Try.prog 203 0 0 = true := by kernel_rfl
theorem kcallB_139_true : callB Try.prog 139 = true := by kernel_rfl
theorem kcallB_127_true : callB Try.prog 127 = true := by kernel_rfl
theorem kcallB_126_true : callB Try.prog 126 = true := by kernel_rfl
theorem kcallB_128_true : callB Try.prog 128 = true := by kernel_rfl
theorem kcallB_124_true : callB Try.prog 124 = true := by kernel_rfl
theorem kcallB_125_true : callB Try.prog 125 = true := by kernel_rfl
theorem kcallB_84_true : callB Try.prog 84 = true := by kernel_rfl
theorem kcallB_81_true : callB Try.prog 81 = true := by kernel_rfl
theorem kcallB_82_true : callB Try.prog 82 = true := by kernel_rfl
theorem kcallB_83_true : callB Try.prog 83 = true := by kernel_rfl
theorem kcallB_18_true : callB Try.prog 18 = true := by kernel_rfl
theorem kcallB_46_true : callB Try.prog 46 = true := by kernel_rfl
theorem kcallB_21_true : callB Try.prog 21 = true := by kernel_rfl
theorem kcallB_47_true : callB Try.prog 47 = true := by kernel_rfl
theorem kcallB_48_true : callB Try.prog 48 = true := by kernel_rfl
theorem kcallB_40_true : callB Try.prog 40 = true := by kernel_rfl

set_option maxRecDepth 100000 in
theorem C123 {B : World} {L : List HP} {a0 : Int} {a1 : List Int} {b1_ : Nat} {h1 : Value} {r0 : Bool} (g1 : Ent L (Bx b1_ 22 [h1])) (e1 : Ent L (Rd 1 h1 (a1.map cI))) (hm : F123 a0 a1 = some r0) {w : World} (st : St B L w) : Calls Try.prog 123 #[I a0, .pointer (some ⟨b1_, 0, none⟩)] w (fun e w' => (e = .returned (.bool r0) ∧ St B (L) w')) := by
  refine calls_of (N := 12) (L := L) (args := [I a0, .pointer (some ⟨b1_, 0, none⟩)]) Try.func123 rfl rfl rfl ?_ st
  dsimp only [F123] at hm
  refine TC.k ?_
  refine TC.region ?_
  refine TO.s rfl rfl rfl (StepS.assign rfl) ?_
  refine TO.code ?_
  refine TC.k ?_
  refine TC.region ?_
  refine TO.s rfl rfl rfl (StepS.move rfl) ?_
  refine TO.s rfl rfl rfl (StepS.cmp rfl rfl rfl) ?_
  refine TO.s rfl rfl rfl (StepS.move rfl) ?_
  refine TO.mid1 5 11 (.bool ((decide (a0 < 0)) || (decide (a0 ≥ (a1.length : Int))))) ?_ ?_
  · refine bcase ((decide (a0 < 0))) (fun hb1 => ?_) (fun hb1 => ?_)
    · refine TO.skip rfl rfl rfl (skipT hb1) rfl rfl ?_
      refine TO.skip rfl rfl rfl (skipT hb1) rfl rfl ?_
      refine TO.skip rfl rfl rfl (skipT hb1) rfl rfl ?_
      refine TO.skip rfl rfl rfl (skipT hb1) rfl rfl ?_
      refine TO.s rfl rfl rfl (StepS.pickT rfl hb1 rfl) ?_
      exact TO.up1 5 0 rfl rfl (by rw [hb1]; rfl) rfl
    · refine TO.sw rfl rfl rfl hb1 rfl rfl (StepS.move rfl) ?_
      refine TO.sw rfl rfl rfl hb1 rfl rfl (StepS.ldB rfl g1 kscalB_22_true rfl) ?_
      refine TO.sw rfl rfl rfl hb1 rfl rfl (StepS.lenm rfl e1 ksliceB_22_3_1_true rfl) ?_
      refine TO.sw rfl rfl rfl hb1 rfl rfl (StepS.cmp rfl rfl rfl) ?_
      refine TO.s rfl rfl rfl (StepS.pickF rfl hb1 rfl) ?_
      exact TO.up1 5 0 rfl rfl (by rw [hb1]; rfl) rfl
  refine TO.s rfl rfl rfl (StepS.assign rfl) ?_
  refine TO.code ?_
  cases hm
  refine TC.ret fun a w e s => ?_
  refine FRet.mk1 (P := Try.prog) (fn := Try.f123) (t := 3) e rfl rfl ?_
  exact ⟨rfl, s.mono fun _ => Sat.dropN 0⟩

set_option maxRecDepth 100000 in
theorem C87 {B : World} {L : List HP} {a0 : List Int} {a1 : Int → Option Bool} {h0 : Value} {h1 : Value} {r0 : Int} (e0 : Ent L (Rd 1 h0 (a0.map cI))) (e1 : FOk Try.prog B L h1 (fun (z : Int) => [I z]) (fun (z : Bool) => .bool z) a1) (hm : F87 a0 a1 = some r0) {w : World} (st : St B L w) : Calls Try.prog 87 #[h0, h1] w (fun e w' => (e = .returned (I r0) ∧ St B (L) w')) := by
  refine calls_of (N := 19) (L := L) (args := [h0, h1]) Try.func87 rfl rfl rfl ?_ st
  dsimp only [F87] at hm
  refine TC.k ?_
  refine TC.region ?_
  refine TO.s rfl rfl rfl (StepS.assign rfl) ?_
  refine TO.code ?_
  refine TC.k ?_
  refine TC.k ?_
  refine TC.region ?_
  refine TO.s rfl rfl rfl (StepS.move rfl) ?_
  refine TO.s rfl rfl rfl (StepS.lenm rfl e0 ksliceB_22_3_1_true rfl) ?_
  refine TO.s rfl rfl rfl (StepS.move rfl) ?_
  refine TO.code ?_
  obtain ⟨o3, hw4, hm⟩ := bind_some hm
  refine TC.loop hw4 (fun x1 => fun a w => Mid 19 B [(0, h0), (1, h1), (7, I (a0.length : Int)), (8, I x1)] (L) a w) (fun _ => fun a w => Mid 19 B [] (L) a w) (fun r0 => FRet Try.prog Try.f87 (fun e w' => (e = .returned (I r0) ∧ St B (L) w'))) ?_ ?_ ?_ ?_
  · rintro x1 o3r hb5 a w ⟨he, hs⟩
    dsimp only [F87_L0] at hb5
    refine TC.use ?_ he hs
    refine TC.k ?_
    refine TC.region ?_
    refine TO.s rfl rfl rfl (StepS.cmp rfl rfl rfl) ?_
    refine TO.code ?_
    refine TC.k ?_
    refine TC.cond rfl (fun hc6 => ?_) (fun hc6 => ?_)
    · replace hb5 := cond_t hc6 hb5
      refine TC.skipk ?_
      refine TC.k ?_
      refine TC.block ?_
      refine TC.k ?_
      refine TC.region ?_
      refine TO.s rfl rfl rfl (StepS.move rfl) ?_
      refine TO.s rfl rfl rfl (StepS.assign rfl) ?_
      refine TO.code ?_
      refine TC.k ?_
      refine TC.region ?_
      refine TO.s rfl rfl rfl (StepS.move rfl) ?_
      refine TO.s rfl rfl rfl (StepS.move rfl) ?_
      refine TO.s rfl rfl rfl (StepS.move rfl) ?_
      obtain ⟨x7, hx8, hb5⟩ := bind_some hb5
      refine TO.s rfl rfl rfl (StepS.idx rfl rfl e0 ksliceB_22_3_1_true (idx_spec hx8).1 (idxm_lt hx8)) ?_
      refine TO.s rfl rfl rfl (StepS.ld0 rfl e0 kscalB_3_true rfl (idxm hx8) rfl) ?_
      obtain ⟨r9, hc10, hb5⟩ := bind_some hb5
      refine TO.q rfl rfl rfl (StepQ.callF (x := x7) e1 (Ext.rfl) rfl rfl hc10) ?_
      refine TO.code ?_
      refine TC.cond rfl (fun hc11 => ?_) (fun hc11 => ?_)
      · replace hb5 := cond_t hc11 hb5
        refine TC.k ?_
        refine TC.region ?_
        refine TO.s rfl rfl rfl (StepS.move rfl) ?_
        refine TO.s rfl rfl rfl (StepS.assign rfl) ?_
        refine TO.code ?_
        cases hb5
        refine TC.ret fun a w e s => ?_
        refine FRet.mk1 (P := Try.prog) (fn := Try.f87) (t := 4) e rfl rfl ?_
        exact ⟨rfl, s.mono fun _ => Sat.dropN 0⟩
      · replace hb5 := cond_f hc11 hb5
        refine TC.skipk ?_
        refine TC.region ?_
        refine TO.s rfl rfl rfl (StepS.ari rfl rfl rfl) ?_
        refine TO.s rfl rfl rfl (StepS.move rfl) ?_
        cases hb5
        refine TO.nil fun a w e s => ?_
        exact ⟨e.sub (lk_of_allIn ⟨rfl, rfl, rfl, rfl, trivial⟩), s⟩
    · replace hb5 := cond_f hc6 hb5
      cases hb5
      refine TC.exit rfl fun a w e s => ?_
      exact ⟨e.sub (lk_of_allIn trivial), s⟩
  · exact fun a w e s => ⟨e.sub (lk_of_allIn ⟨rfl, rfl, rfl, rfl, trivial⟩), s⟩
  · rintro _ rfl a w ⟨he, hs⟩
    dsimp only [Ctl.on] at hm
    refine TC.use ?_ he hs
    refine TC.k ?_
    refine TC.region ?_
    refine TO.s rfl rfl rfl (StepS.assign rfl) ?_
    refine TO.code ?_
    cases hm
    refine TC.ret fun a w e s => ?_
    refine FRet.mk1 (P := Try.prog) (fn := Try.f87) (t := 4) e rfl rfl ?_
    exact ⟨rfl, s.mono fun _ => Sat.dropN 0⟩
  · rintro r rfl
    cases hm
    exact fun a w h => h

set_option maxRecDepth 100000 in
theorem C49 {B : World} {L : List HP} {a0 : List Int} {a1 : Int → Option Bool} {h0 : Value} {h1 : Value} {r0 : Bool} (e0 : Ent L (Rd 1 h0 (a0.map cI))) (e1 : FOk Try.prog B L h1 (fun (z : Int) => [I z]) (fun (z : Bool) => .bool z) a1) (hm : F49 a0 a1 = some r0) {w : World} (st : St B L w) : Calls Try.prog 49 #[h0, h1] w (fun e w' => (e = .returned (.bool r0) ∧ St B (L) w')) := by
  refine calls_of (N := 9) (L := L) (args := [h0, h1]) Try.func49 rfl rfl rfl ?_ st
  dsimp only [F49] at hm
  refine TC.k ?_
  refine TC.region ?_
  refine TO.s rfl rfl rfl (StepS.assign rfl) ?_
  refine TO.code ?_
  refine TC.k ?_
  refine TC.region ?_
  refine TO.s rfl rfl rfl (StepS.move rfl) ?_
  refine TO.s rfl rfl rfl (StepS.move rfl) ?_
  obtain ⟨r1, hc2, hm⟩ := bind_some hm
  refine TO.q rfl rfl rfl (StepQ.call kcallB_87_true rfl rfl (fun _ st => C87 e0 (e1.ext (Ext.rfl)) hc2 st)) ?_
  refine TO.s rfl rfl rfl (StepS.cmp rfl rfl rfl) ?_
  refine TO.s rfl rfl rfl (StepS.assign rfl) ?_
  refine TO.code ?_
  cases hm
  refine TC.ret fun a w e s => ?_
  refine FRet.mk1 (P := Try.prog) (fn := Try.f49) (t := 4) e rfl rfl ?_
  exact ⟨rfl, s.mono fun _ => Sat.dropN 0⟩

set_option maxRecDepth 100000 in
theorem C81 {B : World} {L : List HP} {a0 : List Int} {h0 : Value} {r0 : Int} {r1 : Int} (e0 : Ent L (Rd 1 h0 (a0.map cI))) (hm : F81 a0 = some (r0, r1)) {w : World} (st : St B L w) : Calls Try.prog 81 #[h0] w (fun e w' => (e = .returned (.tuple #[I r0, I r1]) ∧ St B (L) w')) := by
  refine calls_of (N := 52) (L := L) (args := [h0]) Try.func81 rfl rfl rfl ?_ st
  dsimp only [F81] at hm
  refine TC.k ?_
  refine TC.region ?_
  refine TO.boxS rfl e0 rfl fun b1 => ?_
  refine TO.s rfl rfl rfl (StepS.assign rfl) ?_
  refine TO.s rfl rfl rfl (StepS.assign rfl) ?_
  refine TO.code ?_
  refine TC.k ?_
  refine TC.k ?_
  refine TC.region ?_
  refine TO.s rfl rfl rfl (StepS.ldB rfl (Ent.at 0 rfl) kscalB_22_true rfl) ?_
  refine TO.s rfl rfl rfl (StepS.mkfn rfl) ?_
  obtain ⟨r2, hc3, hm⟩ := bind_some hm
  refine TO.q rfl rfl rfl (StepQ.call kcallB_49_true rfl rfl (fun _ st => C49 e0.tl ⟨123, #[], #[.pointer (some ⟨b1, 0, none⟩)], rfl, kcallB_123_true, fun _ hx z r hm w st => C123 (Ent.ext (Ent.at 0 rfl) hx) (Ent.ext e0.tl hx) hm st⟩ hc3 st)) ?_
  refine TO.code ?_
  refine TC.cond rfl (fun hc4 => ?_) (fun hc4 => ?_)
  · replace hm := cond_t hc4 hm
    refine TC.k ?_
    refine TC.region ?_
    refine TO.s rfl rfl rfl (StepS.assign rfl) ?_
    refine TO.s rfl rfl rfl (StepS.assign rfl) ?_
    refine TO.code ?_
    cases hm
    refine TC.ret fun a w e s => ?_
    refine FRet.mk2 (P := Try.prog) (fn := Try.f81) (t := 2) (u := 3) e rfl rfl rfl ?_
    exact ⟨rfl, s.mono fun _ => Sat.dropN 1⟩
  · replace hm := cond_f hc4 hm
    refine TC.skipk ?_
    refine TC.k ?_
    refine TC.region ?_
    refine TO.s rfl rfl rfl (StepS.assign rfl) ?_
    refine TO.code ?_
    refine TC.k ?_
    refine TC.k ?_
    refine TC.region ?_
    refine TO.s rfl rfl rfl (StepS.ldB rfl (Ent.at 0 rfl) kscalB_22_true rfl) ?_
    refine TO.s rfl rfl rfl (StepS.lenm rfl e0.tl ksliceB_22_3_1_true rfl) ?_
    refine TO.s rfl rfl rfl (StepS.move rfl) ?_
    refine TO.code ?_
    obtain ⟨o16, hw17, hm⟩ := bind_some hm
    refine TC.loop hw17 (fun (y7, x8) => fun a w => ∃ v5 : Value, Mid 52 B [(1, .pointer (some ⟨b1, 0, none⟩)), (4, v5), (11, h0), (12, I (a0.length : Int)), (13, I x8)] (OwnS 3 1 v5 (y7.map cI) :: Bx b1 22 [h0] :: L) a w) (fun y15 => fun a w => ∃ v13 : Value, Mid 52 B [(1, .pointer (some ⟨b1, 0, none⟩)), (4, v13)] (OwnS 3 1 v13 (y15.map cI) :: Bx b1 22 [h0] :: L) a w) (fun (_ : Unit) _ _ => False) ?_ ?_ ?_ ?_
    · rintro ⟨y7, x8⟩ o16r hb18 a w ⟨v5, he, hs⟩
      dsimp only [F81_L0] at hb18
      refine TC.use ?_ he hs
      refine TC.k ?_
      refine TC.region ?_
      refine TO.s rfl rfl rfl (StepS.cmp rfl rfl rfl) ?_
      refine TO.code ?_
      refine TC.k ?_
      refine TC.cond rfl (fun hc19 => ?_) (fun hc19 => ?_)
      · replace hb18 := cond_t hc19 hb18
        refine TC.skipk ?_
        refine TC.k ?_
        obtain ⟨y20, hj22, hb18⟩ := bind_some hb18
        first | refine TC.cutM (fun a w => ∃ v21 : Value, Mid 52 B [(1, .pointer (some ⟨b1, 0, none⟩)), (4, v21), (11, h0), (12, I (a0.length : Int)), (13, I x8)] (OwnS 3 1 v21 (y20.map cI) :: Bx b1 22 [h0] :: L) a w) ?_ ?_ | refine TC.cutX (fun a w => ∃ v21 : Value, Mid 52 B [(1, .pointer (some ⟨b1, 0, none⟩)), (4, v21), (11, h0), (12, I (a0.length : Int)), (13, I x8)] (OwnS 3 1 v21 (y20.map cI) :: Bx b1 22 [h0] :: L) a w) ?_ ?_
        · refine TC.block ?_
          refine TC.k ?_
          refine TC.region ?_
          refine TO.s rfl rfl rfl (StepS.move rfl) ?_
          obtain ⟨x23, hx24, hj22⟩ := bind_some hj22
          refine TO.s rfl rfl rfl (StepS.idx rfl rfl e0.tl.tl ksliceB_22_3_1_true (idx_spec hx24).1 (idxm_lt hx24)) ?_
          refine TO.s rfl rfl rfl (StepS.ld0 rfl e0.tl.tl kscalB_3_true rfl (idxm hx24) rfl) ?_
          refine TO.s rfl rfl rfl (StepS.assign rfl) ?_
          refine TO.s rfl rfl rfl (StepS.assign rfl) ?_
          refine TO.code ?_
          refine TC.k ?_
          refine TC.region ?_
          refine TO.s rfl rfl rfl (StepS.move rfl) ?_
          refine TO.s rfl rfl rfl (StepS.move rfl) ?_
          refine TO.s rfl rfl rfl (StepS.cmp rfl rfl rfl) ?_
          refine TO.code ?_
          refine TC.cond rfl (fun hc25 => ?_) (fun hc25 => ?_)
          · replace hj22 := cond_t hc25 hj22
            refine TC.region ?_
            refine TO.s rfl rfl rfl (StepS.move rfl) ?_
            refine TO.s rfl rfl rfl (StepS.move rfl) ?_
            refine TO.litS (f := cI) ([x8] : List Int) kelemB_22_3_1_8_true kinfo_3_bind_zero_some_I_0 rfl rfl (fun _ => rfl) rfl rfl (by kernel_rfl) rfl fun v26 => ?_
            obtain ⟨y28, hk29, hj22⟩ := bind_some hj22
            refine TO.app (k := 1) (f := cI) kelemB_22_3_1_8_true (by decide) rfl rfl rfl (OwnS.rd (Ent.at 0 rfl)) hk29 (fun x c hc => by simp [Value.oneCell'] at hc ⊢; first | (obtain rfl := hc; rfl) | (rcases hc with rfl <;> rfl)) rfl rfl fun v30 => ?_
            refine TO.s rfl rfl rfl (StepS.assign rfl) ?_
            cases hj22
            refine TO.nil fun a w e s => ?_
            exact ⟨v30, e.sub (lk_of_allIn ⟨rfl, rfl, rfl, rfl, rfl, trivial⟩), s.mono fun _ => Sat.dropN 1⟩
          · replace hj22 := cond_f hc25 hj22
            cases hj22
            refine TC.skip fun a w e s => ?_
            exact ⟨v5, e.sub (lk_of_allIn ⟨rfl, rfl, rfl, rfl, rfl, trivial⟩), s⟩
        · intro a w ⟨v21, he, hs⟩
          refine TC.use ?_ he hs
          refine TC.region ?_
          refine TO.s rfl rfl rfl (StepS.ari rfl rfl rfl) ?_
          refine TO.s rfl rfl rfl (StepS.move rfl) ?_
          cases hb18
          refine TO.nil fun a w e s => ?_
          exact ⟨v21, e.sub (lk_of_allIn ⟨rfl, rfl, rfl, rfl, rfl, trivial⟩), s⟩
      · replace hb18 := cond_f hc19 hb18
        cases hb18
        refine TC.exit rfl fun a w e s => ?_
        exact ⟨v5, e.sub (lk_of_allIn ⟨rfl, rfl, trivial⟩), s⟩
    · exact fun a w e s => ⟨.slice none 0 0, e.sub (lk_of_allIn ⟨rfl, rfl, rfl, rfl, rfl, trivial⟩), s.mono fun _ s => (by replace s := Sat.nilS (e := 3) (sz := 1) (f := cI) s; exact Sat.by [1, 1] 2 0 (by kernel_rfl) s)⟩
    · rintro y15 rfl a w ⟨v13, he, hs⟩
      dsimp only [Ctl.on] at hm
      refine TC.use ?_ he hs
      refine TC.k ?_
      refine TC.k ?_
      refine TC.region ?_
      refine TO.s rfl rfl rfl (StepS.move rfl) ?_
      refine TO.s rfl rfl rfl (StepS.lenm rfl (OwnS.rd (Ent.at 0 rfl)) ksliceB_22_3_1_true rfl) ?_
      refine TO.s rfl rfl rfl (StepS.cmp rfl rfl rfl) ?_
      refine TO.code ?_
      refine TC.cond rfl (fun hc31 => ?_) (fun hc31 => ?_)
      · replace hm := cond_t hc31 hm
        refine TC.k ?_
        refine TC.region ?_
        refine TO.s rfl rfl rfl (StepS.assign rfl) ?_
        refine TO.s rfl rfl rfl (StepS.assign rfl) ?_
        refine TO.code ?_
        cases hm
        refine TC.ret fun a w e s => ?_
        refine FRet.mk2 (P := Try.prog) (fn := Try.f81) (t := 2) (u := 3) e rfl rfl rfl ?_
        exact ⟨rfl, s.mono fun _ => Sat.dropN 2⟩
      · replace hm := cond_f hc31 hm
        refine TC.skipk ?_
        refine TC.k ?_
        refine TC.k ?_
        refine TC.region ?_
        refine TO.s rfl rfl rfl (StepS.ldB rfl (Ent.at 1 rfl) kscalB_22_true rfl) ?_
        refine TO.s rfl rfl rfl (StepS.lenm rfl e0.tl.tl ksliceB_22_3_1_true rfl) ?_
        refine TO.s rfl rfl rfl (StepS.move rfl) ?_
        refine TO.code ?_
        obtain ⟨o34, hw35, hm⟩ := bind_some hm
        refine TC.loop hw35 (fun x32 => fun a w => Mid 52 B [(1, .pointer (some ⟨b1, 0, none⟩)), (4, v13), (30, I (a0.length : Int)), (31, I x32)] (OwnS 3 1 v13 (y15.map cI) :: Bx b1 22 [h0] :: L) a w) (fun _ => fun a w => Mid 52 B [(4, v13)] (OwnS 3 1 v13 (y15.map cI) :: Bx b1 22 [h0] :: L) a w) (fun (r0, r1) => FRet Try.prog Try.f81 (fun e w' => (e = .returned (.tuple #[I r0, I r1]) ∧ St B (L) w'))) ?_ ?_ ?_ ?_
        · rintro x32 o34r hb36 a w ⟨he, hs⟩
          dsimp only [F81_L1] at hb36
          refine TC.use ?_ he hs
          refine TC.k ?_
          refine TC.region ?_
          refine TO.s rfl rfl rfl (StepS.cmp rfl rfl rfl) ?_
          refine TO.code ?_
          refine TC.k ?_
          refine TC.cond rfl (fun hc37 => ?_) (fun hc37 => ?_)
          · replace hb36 := cond_t hc37 hb36
            refine TC.skipk ?_
            refine TC.k ?_
            refine TC.block ?_
            refine TC.k ?_
            refine TC.region ?_
            refine TO.s rfl rfl rfl (StepS.move rfl) ?_
            refine TO.s rfl rfl rfl (StepS.assign rfl) ?_
            refine TO.code ?_
            refine TC.k ?_
            refine TC.k ?_
            refine TC.region ?_
            refine TO.s rfl rfl rfl (StepS.ldB rfl (Ent.at 1 rfl) kscalB_22_true rfl) ?_
            refine TO.s rfl rfl rfl (StepS.lenm rfl e0.tl.tl ksliceB_22_3_1_true rfl) ?_
            refine TO.s rfl rfl rfl (StepS.move rfl) ?_
            refine TO.code ?_
            obtain ⟨o43, hw44, hb36⟩ := bind_some hb36
            refine TC.loop hw44 (fun (x38, x39) => fun a w => Mid 52 B [(1, .pointer (some ⟨b1, 0, none⟩)), (4, v13), (7, I x38), (30, I (a0.length : Int)), (31, I x32), (35, I (a0.length : Int)), (36, I x39)] (OwnS 3 1 v13 (y15.map cI) :: Bx b1 22 [h0] :: L) a w) (fun x42 => fun a w => Mid 52 B [(1, .pointer (some ⟨b1, 0, none⟩)), (4, v13), (7, I x42), (30, I (a0.length : Int)), (31, I x32)] (OwnS 3 1 v13 (y15.map cI) :: Bx b1 22 [h0] :: L) a w) (fun (_ : Unit) _ _ => False) ?_ ?_ ?_ ?_
            · rintro ⟨x38, x39⟩ o43r hb45 a w ⟨he, hs⟩
              dsimp only [F81_L2] at hb45
              refine TC.use ?_ he hs
              refine TC.k ?_
              refine TC.region ?_
              refine TO.s rfl rfl rfl (StepS.cmp rfl rfl rfl) ?_
              refine TO.code ?_
              refine TC.k ?_
              refine TC.cond rfl (fun hc46 => ?_) (fun hc46 => ?_)
              · replace hb45 := cond_t hc46 hb45
                refine TC.skipk ?_
                refine TC.k ?_
                refine TC.block ?_
                refine TC.region ?_
                refine TO.s rfl rfl rfl (StepS.ldB rfl (Ent.at 1 rfl) kscalB_22_true rfl) ?_
                refine TO.s rfl rfl rfl (StepS.move rfl) ?_
                obtain ⟨x47, hx48, hb45⟩ := bind_some hb45
                refine TO.s rfl rfl rfl (StepS.idx rfl rfl e0.tl.tl ksliceB_22_3_1_true (idx_spec hx48).1 (idxm_lt hx48)) ?_
                refine TO.s rfl rfl rfl (StepS.ld0 rfl e0.tl.tl kscalB_3_true rfl (idxm hx48) rfl) ?_
                refine TO.s rfl rfl rfl (StepS.assign rfl) ?_
                refine TO.code ?_
                refine TC.region ?_
                refine TO.s rfl rfl rfl (StepS.ari rfl rfl rfl) ?_
                refine TO.s rfl rfl rfl (StepS.move rfl) ?_
                cases hb45
                refine TO.nil fun a w e s => ?_
                exact ⟨e.sub (lk_of_allIn ⟨rfl, rfl, rfl, rfl, rfl, rfl, rfl, trivial⟩), s⟩
              · replace hb45 := cond_f hc46 hb45
                cases hb45
                refine TC.exit rfl fun a w e s => ?_
                exact ⟨e.sub (lk_of_allIn ⟨rfl, rfl, rfl, rfl, rfl, trivial⟩), s⟩
            · exact fun a w e s => ⟨e.sub (lk_of_allIn ⟨rfl, rfl, rfl, rfl, rfl, rfl, rfl, trivial⟩), s⟩
            · rintro x42 rfl a w ⟨he, hs⟩
              dsimp only [Ctl.on] at hb36
              refine TC.use ?_ he hs
              refine TC.k ?_
              refine TC.region ?_
              refine TO.s rfl rfl rfl (StepS.move rfl) ?_
              refine TO.s rfl rfl rfl (StepS.move rfl) ?_
              obtain ⟨x49, hx50, hb36⟩ := bind_some hb36
              refine TO.s rfl rfl rfl (StepS.idx rfl rfl (OwnS.rd (Ent.at 0 rfl)) ksliceB_22_3_1_true (idx_spec hx50).1 (idxm_lt hx50)) ?_
              refine TO.s rfl rfl rfl (StepS.ld0 rfl (OwnS.rd (Ent.at 0 rfl)) kscalB_3_true rfl (idxm hx50) rfl) ?_
              refine TO.s rfl rfl rfl (StepS.cmp rfl rfl rfl) ?_
              refine TO.code ?_
              refine TC.cond rfl (fun hc51 => ?_) (fun hc51 => ?_)
              · replace hb36 := cond_t hc51 hb36
                refine TC.k ?_
                refine TC.region ?_
                refine TO.s rfl rfl rfl (StepS.assign rfl) ?_
                refine TO.s rfl rfl rfl (StepS.assign rfl) ?_
                refine TO.code ?_
                cases hb36
                refine TC.ret fun a w e s => ?_
                refine FRet.mk2 (P := Try.prog) (fn := Try.f81) (t := 2) (u := 3) e rfl rfl rfl ?_
                exact ⟨rfl, s.mono fun _ => Sat.dropN 2⟩
              · replace hb36 := cond_f hc51 hb36
                refine TC.skipk ?_
                refine TC.region ?_
                refine TO.s rfl rfl rfl (StepS.ari rfl rfl rfl) ?_
                refine TO.s rfl rfl rfl (StepS.move rfl) ?_
                cases hb36
                refine TO.nil fun a w e s => ?_
                exact ⟨e.sub (lk_of_allIn ⟨rfl, rfl, rfl, rfl, trivial⟩), s⟩
            · rintro r rfl
              exact fun a w h => h.elim
          · replace hb36 := cond_f hc37 hb36
            cases hb36
            refine TC.exit rfl fun a w e s => ?_
            exact ⟨e.sub (lk_of_allIn ⟨rfl, trivial⟩), s⟩
        · exact fun a w e s => ⟨e.sub (lk_of_allIn ⟨rfl, rfl, rfl, rfl, trivial⟩), s⟩
        · rintro _ rfl a w ⟨he, hs⟩
          dsimp only [Ctl.on] at hm
          refine TC.use ?_ he hs
          refine TC.k ?_
          refine TC.region ?_
          refine TO.s rfl rfl rfl (StepS.move rfl) ?_
          obtain ⟨x52, hx53, hm⟩ := bind_some hm
          refine TO.s rfl rfl rfl (StepS.idx rfl rfl (OwnS.rd (Ent.at 0 rfl)) ksliceB_22_3_1_true (idx_spec hx53).1 (idxm_lt hx53)) ?_
          refine TO.s rfl rfl rfl (StepS.ld0 rfl (OwnS.rd (Ent.at 0 rfl)) kscalB_3_true rfl (idxm hx53) rfl) ?_
          refine TO.s rfl rfl rfl (StepS.assign rfl) ?_
          refine TO.s rfl rfl rfl (StepS.assign rfl) ?_
          refine TO.code ?_
          cases hm
          refine TC.ret fun a w e s => ?_
          refine FRet.mk2 (P := Try.prog) (fn := Try.f81) (t := 2) (u := 3) e rfl rfl rfl ?_
          exact ⟨rfl, s.mono fun _ => Sat.dropN 2⟩
        · rintro r rfl
          cases hm
          exact fun a w h => h
    · rintro r rfl
      exact fun a w h => h.elim

set_option maxRecDepth 100000 in
theorem C82 {B : World} {L : List HP} {a0 : List Int} {h0 : Value} {r0 : List Int} (e0 : Ent L (Rd 1 h0 (a0.map cI))) (hm : F82 a0 = some r0) {w : World} (st : St B L w) : Calls Try.prog 82 #[h0] w (fun e w' => ∃ v M, e = .returned v ∧ (∃ (qr0 : Value), v = qr0 ∧ M = (OwnS 3 1 qr0 (r0.map cI) :: L)) ∧ St B M w') := by
  refine calls_of (N := 8) (L := L) (args := [h0]) Try.func82 rfl rfl rfl ?_ st
  dsimp only [F82] at hm
  refine TC.k ?_
  refine TC.region ?_
  refine TO.s rfl rfl rfl (StepS.assign rfl) ?_
  refine TO.code ?_
  refine TC.k ?_
  refine TC.k ?_
  refine TC.region ?_
  refine TO.s rfl rfl rfl (StepS.move rfl) ?_
  refine TO.nilck rfl e0 ksliceB_22_3_1_true rfl fun b hb => ?_
  refine TO.code ?_
  refine TC.cond rfl (fun hc => ?_) (fun hc => ?_)
  · have hn : a0 = [] := by simpa using hb hc
    subst hn
    have hr : r0 = [] := by simpa using (appl_spec hm).2.2
    subst hr
    refine TC.k ?_
    refine TC.region ?_
    refine TO.s rfl rfl rfl (StepS.assign rfl) ?_
    refine TO.code ?_
    refine TC.ret fun a w e s => ?_
    refine FRet.mk1 (P := Try.prog) (fn := Try.f82) (t := 2) e rfl rfl ?_
    exact ⟨_, _, rfl, ⟨_, rfl, rfl⟩, s.mono fun _ s => Sat.nilS s⟩
  · refine TC.skipk ?_
    refine TC.k ?_
    refine TC.region ?_
    refine TO.lit0 (f := cI) ksliceB_22_3_1_true rfl fun v1 => ?_
    refine TO.s rfl rfl rfl (StepS.move rfl) ?_
    refine TO.app (k := 0) (f := cI) kelemB_22_3_1_8_true (by decide) rfl rfl rfl e0.tl hm (fun x c hc => by simp [Value.oneCell'] at hc ⊢; first | (obtain rfl := hc; rfl) | (rcases hc with rfl <;> rfl)) rfl rfl fun v2 => ?_
    refine TO.s rfl rfl rfl (StepS.assign rfl) ?_
    refine TO.code ?_
    refine TC.ret fun a w e s => ?_
    refine FRet.mk1 (P := Try.prog) (fn := Try.f82) (t := 2) e rfl rfl ?_
    exact ⟨_, _, rfl, ⟨_, rfl, rfl⟩, s⟩

set_option maxRecDepth 100000 in
theorem C124 {B : World} {L : List HP} {a0 : Int} {a1_1 : Nat} {b1_ : Nat} {c1_ : Nat} {u1_0_0 : Value} {h1_1 : Value} {u1_2_0 : Value} {u1_3_0 : Value} {u1_4_0 : Value} {r0 : Bool} (g1 : Ent L (Bx b1_ 200 [.pointer (some ⟨c1_, 0, none⟩)])) (gg1 : Ent L (Bx c1_ 203 [u1_0_0, h1_1, u1_2_0, u1_3_0, u1_4_0])) (e1_1 : Ent L (Hd h1_1 a1_1)) (hm : F124 a0 a1_1 = some r0) {w : World} (st : St B L w) : Calls Try.prog 124 #[I a0, .pointer (some ⟨b1_, 0, none⟩)] w (fun e w' => (e = .returned (.bool r0) ∧ St B (L) w')) := by
  refine calls_of (N := 15) (L := L) (args := [I a0, .pointer (some ⟨b1_, 0, none⟩)]) Try.func124 rfl rfl rfl ?_ st
  dsimp only [F124] at hm
  refine TC.k ?_
  refine TC.region ?_
  refine TO.s rfl rfl rfl (StepS.assign rfl) ?_
  refine TO.code ?_
  refine TC.k ?_
  refine TC.region ?_
  refine TO.s rfl rfl rfl (StepS.move rfl) ?_
  refine TO.s rfl rfl rfl (StepS.cmp rfl rfl rfl) ?_
  refine TO.s rfl rfl rfl (StepS.move rfl) ?_
  refine TO.mid1 8 14 (.bool ((decide (a0 < 0)) || (decide (a0 ≥ (a1_1 : Int))))) ?_ ?_
  · refine bcase ((decide (a0 < 0))) (fun hb1 => ?_) (fun hb1 => ?_)
    · refine TO.skip rfl rfl rfl (skipT hb1) rfl rfl ?_
      refine TO.skip rfl rfl rfl (skipT hb1) rfl rfl ?_
      refine TO.skip rfl rfl rfl (skipT hb1) rfl rfl ?_
      refine TO.skip rfl rfl rfl (skipT hb1) rfl rfl ?_
      refine TO.skip rfl rfl rfl (skipT hb1) rfl rfl ?_
      refine TO.skip rfl rfl rfl (skipT hb1) rfl rfl ?_
      refine TO.skip rfl rfl rfl (skipT hb1) rfl rfl ?_
      refine TO.s rfl rfl rfl (StepS.pickT rfl hb1 rfl) ?_
      exact TO.up1 8 0 rfl rfl (by rw [hb1]; rfl) rfl
    · refine TO.sw rfl rfl rfl hb1 rfl rfl (StepS.move rfl) ?_
      refine TO.sw rfl rfl rfl hb1 rfl rfl (StepS.ldB rfl g1 kscalB_200_true rfl) ?_
      refine TO.sw rfl rfl rfl hb1 rfl rfl (StepS.nilc rfl) ?_
      refine TO.sw rfl rfl rfl hb1 rfl rfl (StepS.fld rfl kfieldB_203_1_1_true) ?_
      refine TO.sw rfl rfl rfl hb1 rfl rfl (StepS.ldB rfl gg1 kscalB_50_true rfl) ?_
      refine TO.sw rfl rfl rfl hb1 rfl rfl (StepS.lenHd rfl e1_1 ksliceB_50_22_1_true rfl) ?_
      refine TO.sw rfl rfl rfl hb1 rfl rfl (StepS.cmp rfl rfl rfl) ?_
      refine TO.s rfl rfl rfl (StepS.pickF rfl hb1 rfl) ?_
      exact TO.up1 8 0 rfl rfl (by rw [hb1]; rfl) rfl
  refine TO.s rfl rfl rfl (StepS.assign rfl) ?_
  refine TO.code ?_
  cases hm
  refine TC.ret fun a w e s => ?_
  refine FRet.mk1 (P := Try.prog) (fn := Try.f124) (t := 3) e rfl rfl ?_
  exact ⟨rfl, s.mono fun _ => Sat.dropN 0⟩

set_option maxRecDepth 100000 in
theorem C139 {B : World} {L : List HP} {a0 : (Int × Int) → Option (List Bool)} {a1 : Int} {a2 : Int} {a3 : Bool} {b0_ : Nat} {u0_0 : Value} {u0_1 : Value} {u0_2 : Value} {u0_3 : Value} {h0_1 : Nat} {h0_2 : (Int × Int) → Value} {s0 : (Int × Int) → Option (List Bool)} (hm : F139 a0 a1 a2 a3 = some s0) {w : World} (st : St B (Bx b0_ 203 [u0_0, u0_1, u0_2, u0_3, .map (some h0_1)] :: MS (fun k : Int × Int => .agg #[I k.1, I k.2]) 4 1 cB h0_1 h0_2 (a0) :: L) w) : Calls Try.prog 139 #[.pointer (some ⟨b0_, 0, none⟩), I a1, I a2, .bool a3] w (fun e w' => ∃ v M, e = .returned v ∧ (∃ (qr1 : Nat) (qhd2 : (Int × Int) → Value), v = .tuple #[] ∧ M = (Bx b0_ 203 [u0_0, u0_1, u0_2, u0_3, .map (some qr1)] :: MS (fun k : Int × Int => .agg #[I k.1, I k.2]) 4 1 cB qr1 qhd2 (s0) :: L)) ∧ St B M w') := by
  refine calls_of (N := 23) (L := (Bx b0_ 203 [u0_0, u0_1, u0_2, u0_3, .map (some h0_1)] :: MS (fun k : Int × Int => .agg #[I k.1, I k.2]) 4 1 cB h0_1 h0_2 (a0) :: L)) (args := [.pointer (some ⟨b0_, 0, none⟩), I a1, I a2, .bool a3]) Try.func139 rfl rfl rfl ?_ st
  dsimp only [F139] at hm
  refine TC.k ?_
  refine TC.region ?_
  refine TO.s rfl rfl rfl (StepS.move rfl) ?_
  refine TO.s rfl rfl rfl (StepS.move rfl) ?_
  refine TO.s rfl rfl rfl (StepS.build (cs := [I a1, I a2]) rfl (by kernel_rfl)) ?_
  refine TO.alloc kinfo_114_bind_zero_some_agg_I_0_I_0 rfl rfl fun b3 => ?_
  refine TO.stB (us := [I a1, I a2]) 0 [I a1, I a2] rfl rfl rfl ksizeB_114_2_true rfl rfl rfl (by simp [Value.oneCell']) rfl ?_
  refine TO.code ?_
  refine TC.region_any (Bx b3 114 [I a1, I a2] :: Bx b0_ 203 [u0_0, u0_1, u0_2, u0_3, .map (some h0_1)] :: MS (fun k : Int × Int => .agg #[I k.1, I k.2]) 4 1 cB h0_1 h0_2 (a0) :: L) 7 12 kfollows_mixedOrders_true rfl ?_
  refine TA.takeW 0 rfl rfl rfl rfl (StepS.move rfl) (by kernel_rfl) (by kernel_rfl) (by kernel_rfl) rfl (.inr (fun _ s => s)) ?_
  refine TA.takeW 1 rfl rfl rfl rfl (StepS.nilc rfl) (by kernel_rfl) (by kernel_rfl) (by kernel_rfl) rfl (.inr (fun _ s => s)) ?_
  refine TA.takeW 2 rfl rfl rfl rfl (StepS.fld rfl kfieldB_203_4_4_true) (by kernel_rfl) (by kernel_rfl) (by kernel_rfl) rfl (.inr (fun _ s => s)) ?_
  refine TA.take 3 rfl rfl rfl rfl (StepS.ldB rfl (Ent.at 1 rfl) kscalB_201_true rfl) (by kernel_rfl) (by kernel_rfl) (by kernel_rfl) (by kernel_rfl) (by kernel_rfl) (fun _ s => s) ?_
  refine TA.take 4 rfl rfl rfl rfl (StepS.ldBA rfl (Ent.at 0 rfl) kaggB_114_2_true rfl rfl) (by kernel_rfl) (by kernel_rfl) (by kernel_rfl) (by kernel_rfl) (by kernel_rfl) (fun _ s => s) ?_
  refine TA.takeW 5 rfl rfl rfl rfl (StepS.move rfl) (by kernel_rfl) (by kernel_rfl) (by kernel_rfl) rfl (.inr (fun _ s => s)) ?_
  refine TA.all1 (i := 6) (by kernel_rfl) ?_
  refine TB.of rfl ?_
  refine TO.litS (f := cB) ([a3] : List Bool) kelemB_115_4_1_1_true kinfo_4_bind_zero_some_bool_false rfl rfl (fun _ => rfl) rfl rfl (by kernel_rfl) rfl fun vq4_6_1 => ?_
  refine TA.back (.inr (fun _ s => Sat.by [3, 3, 3] 3 1 (by kernel_rfl) s)) ?_
  refine TA.asL (L' := (OwnS 4 1 vq4_6_1 (([a3] : List Bool).map cB) :: Bx b3 114 [I a1, I a2] :: Bx b0_ 203 [u0_0, u0_1, u0_2, u0_3, .map (some h0_1)] :: MS (fun k : Int × Int => .agg #[I k.1, I k.2]) 4 1 cB h0_1 h0_2 (a0) :: L)) (listed' := #[true, true, true, true, true, true, true, false, false, false, false, false]) (by kernel_rfl) (by kernel_rfl) ?_
  refine TA.all1 (i := 7) (by kernel_rfl) ?_
  refine TB.of rfl ?_
  refine TO.ghost (fun _ s => Sat.front 3 rfl s) ?_
  refine TO.mentS (k := (a1, a2)) kmapGB_201_114_115_true (KeyOk.pair kunderlying_114_some_array_2_3 kunderlying_3_some_int_i64 ksizeB_3_1_true kscalB_3_true) kinfo_115_bind_zero_some_slice_none_0_0 rfl rfl rfl fun sbq4_7_1 => ?_
  refine TA.back (.inl (by kernel_rfl)) ?_
  refine TA.asL (L' := (OwnS 4 1 (mhd h0_2 a0 (a1, a2)) (((a0 (a1, a2)).getD []).map cB) :: MSs (fun k : Int × Int => .agg #[I k.1, I k.2]) 4 1 cB h0_1 h0_2 (a0) (a1, a2) sbq4_7_1 :: OwnS 4 1 vq4_6_1 (([a3] : List Bool).map cB) :: Bx b3 114 [I a1, I a2] :: Bx b0_ 203 [u0_0, u0_1, u0_2, u0_3, .map (some h0_1)] :: L)) (listed' := #[true, true, true, true, true, true, true, true, false, false, false, false]) (by kernel_rfl) (by kernel_rfl) ?_
  refine TA.takeW 8 rfl rfl rfl rfl (StepS.extract rfl rfl) (by kernel_rfl) (by kernel_rfl) (by kernel_rfl) rfl (.inl (by kernel_rfl)) ?_
  refine TA.takeW 10 rfl rfl rfl rfl (StepS.extract rfl rfl) (by kernel_rfl) (by kernel_rfl) (by kernel_rfl) rfl (.inl (by kernel_rfl)) ?_
  refine TA.all1 (i := 9) (by kernel_rfl) ?_
  refine TB.of rfl ?_
  obtain ⟨yq4_9_1, hkq4_9_2, hm⟩ := bind_some hm
  refine TO.app (k := 0) (f := cB) kelemB_115_4_1_1_true (by decide) rfl rfl rfl (OwnS.rd (Ent.at 2 rfl)) hkq4_9_2 (fun x c hc => by simp [Value.oneCell'] at hc ⊢; first | (obtain rfl := hc; rfl) | (rcases hc with rfl <;> rfl)) rfl rfl fun vq4_9_3 => ?_
  refine TA.back (.inl (by kernel_rfl)) ?_
  refine TA.asL (L' := (OwnS 4 1 vq4_9_3 (yq4_9_1.map cB) :: MSs (fun k : Int × Int => .agg #[I k.1, I k.2]) 4 1 cB h0_1 h0_2 (a0) (a1, a2) sbq4_7_1 :: OwnS 4 1 vq4_6_1 (([a3] : List Bool).map cB) :: Bx b3 114 [I a1, I a2] :: Bx b0_ 203 [u0_0, u0_1, u0_2, u0_3, .map (some h0_1)] :: L)) (listed' := #[true, true, true, true, true, true, true, true, true, true, true, false]) (by kernel_rfl) (by kernel_rfl) ?_
  refine TA.all1 (i := 11) (by kernel_rfl) ?_
  refine TB.of rfl ?_
  refine TO.ghost (fun _ s => Sat.front 1 rfl s) ?_
  refine TO.mestS (k := (a1, a2)) (ys := yq4_9_1) rfl rfl rfl fun hsq4_11_1 => ?_
  refine TA.back (.inl (by kernel_rfl)) ?_
  refine TA.asL (L' := (MS (fun k : Int × Int => .agg #[I k.1, I k.2]) 4 1 cB h0_1 hsq4_11_1 (mupd a0 (a1, a2) yq4_9_1) :: OwnS 4 1 vq4_6_1 (([a3] : List Bool).map cB) :: Bx b3 114 [I a1, I a2] :: Bx b0_ 203 [u0_0, u0_1, u0_2, u0_3, .map (some h0_1)] :: L)) (listed' := #[true, true, true, true, true, true, true, true, true, true, true, true]) (by kernel_rfl) (by kernel_rfl) ?_
  cases hm
  refine TA.nil (by kernel_rfl) fun a w e s => ?_
  refine FRet.mk0 (P := Try.prog) (fn := Try.f139) e rfl ?_
  refine ⟨_, _, rfl, ⟨h0_1, hsq4_11_1, rfl, rfl⟩, ?_⟩
  refine s.mono fun _ s => ?_
  replace s := Sat.front 0 rfl s
  replace s := Sat.front 3 rfl s
  replace s := Sat.erase 2 s
  replace s := Sat.erase 2 s
  exact s

set_option maxRecDepth 100000 in
theorem C127 {B : World} {L : List HP} {a0 : (List Int) × (List (List Int)) × Int × Int × ((Int × Int) → Option (List Bool))} {a1 : Int} {b0_ : Nat} {h0_1 : Value} {h0_2 : Value} {h0_3 : List Value} {h0_4 : Nat} {h0_5 : (Int × Int) → Value} {s0 : (List Int) × (List (List Int)) × Int × Int × ((Int × Int) → Option (List Bool))} (hm : F127 a0 a1 = some s0) {w : World} (st : St B (Bx b0_ 203 [h0_1, h0_2, I a0.2.2.1, I a0.2.2.2.1, .map (some h0_4)] :: OwnS 3 1 h0_1 (a0.1.map cI) :: SS 22 3 1 cI h0_2 h0_3 (a0.2.1) :: MS (fun k : Int × Int => .agg #[I k.1, I k.2]) 4 1 cB h0_4 h0_5 (a0.2.2.2.2) :: L) w) : Calls Try.prog 127 #[.pointer (some ⟨b0_, 0, none⟩), I a1] w (fun e w' => ∃ v M, e = .returned v ∧ (∃ (qhs1 : List Value) (qr2 : Nat) (qhd3 : (Int × Int) → Value), v = .tuple #[] ∧ M = (Bx b0_ 203 [h0_1, h0_2, I s0.2.2.1, I s0.2.2.2.1, .map (some qr2)] :: OwnS 3 1 h0_1 (s0.1.map cI) :: SS 22 3 1 cI h0_2 qhs1 (s0.2.1) :: MS (fun k : Int × Int => .agg #[I k.1, I k.2]) 4 1 cB qr2 qhd3 (s0.2.2.2.2) :: L)) ∧ St B M w') := by
  refine calls_of (N := 87) (L := (Bx b0_ 203 [h0_1, h0_2, I a0.2.2.1, I a0.2.2.2.1, .map (some h0_4)] :: OwnS 3 1 h0_1 (a0.1.map cI) :: SS 22 3 1 cI h0_2 h0_3 (a0.2.1) :: MS (fun k : Int × Int => .agg #[I k.1, I k.2]) 4 1 cB h0_4 h0_5 (a0.2.2.2.2) :: L)) (args := [.pointer (some ⟨b0_, 0, none⟩), I a1]) Try.func127 rfl rfl rfl ?_ st
  dsimp only [F127] at hm
  refine TC.k ?_
  refine TC.k ?_
  refine TC.region ?_
  refine TO.s rfl rfl rfl (StepS.move rfl) ?_
  refine TO.s rfl rfl rfl (StepS.nilc rfl) ?_
  refine TO.s rfl rfl rfl (StepS.fld rfl kfieldB_203_2_2_true) ?_
  refine TO.s rfl rfl rfl (StepS.ldB rfl (Ent.at 0 rfl) kscalB_3_true rfl) ?_
  refine TO.s rfl rfl rfl (StepS.move rfl) ?_
  refine TO.s rfl rfl rfl (StepS.cmp rfl rfl rfl) ?_
  refine TO.s rfl rfl rfl (StepS.move rfl) ?_
  refine TO.mid1 7 18 (.bool ((a0.2.2.1 != a1) || (a0.2.2.2.1 == a1))) ?_ ?_
  · refine bcase ((a0.2.2.1 != a1)) (fun hb7 => ?_) (fun hb7 => ?_)
    · refine TO.skip rfl rfl rfl (skipT hb7) rfl rfl ?_
      refine TO.skip rfl rfl rfl (skipT hb7) rfl rfl ?_
      refine TO.skip rfl rfl rfl (skipT hb7) rfl rfl ?_
      refine TO.skip rfl rfl rfl (skipT hb7) rfl rfl ?_
      refine TO.skip rfl rfl rfl (skipT hb7) rfl rfl ?_
      refine TO.skip rfl rfl rfl (skipT hb7) rfl rfl ?_
      refine TO.s rfl rfl rfl (StepS.pickT rfl hb7 rfl) ?_
      exact TO.up1 7 0 rfl rfl (by rw [hb7]; rfl) rfl
    · refine TO.sw rfl rfl rfl hb7 rfl rfl (StepS.move rfl) ?_
      refine TO.sw rfl rfl rfl hb7 rfl rfl (StepS.nilc rfl) ?_
      refine TO.sw rfl rfl rfl hb7 rfl rfl (StepS.fld rfl kfieldB_203_3_3_true) ?_
      refine TO.sw rfl rfl rfl hb7 rfl rfl (StepS.ldB rfl (Ent.at 0 rfl) kscalB_3_true rfl) ?_
      refine TO.sw rfl rfl rfl hb7 rfl rfl (StepS.move rfl) ?_
      refine TO.sw rfl rfl rfl hb7 rfl rfl (StepS.cmp rfl rfl rfl) ?_
      refine TO.s rfl rfl rfl (StepS.pickF rfl hb7 rfl) ?_
      exact TO.up1 7 0 rfl rfl (by rw [hb7]; rfl) rfl
  refine TO.s rfl rfl rfl (StepS.move rfl) ?_
  obtain ⟨b9, hj10, hm⟩ := bind_some hm
  refine TO.mid1 10 29 (.bool b9) ?_ ?_
  · refine bcase (((a0.2.2.1 != a1) || (a0.2.2.2.1 == a1))) (fun hb8 => ?_) (fun hb8 => ?_)
    · replace hj10 := cond_t hb8 hj10
      cases hj10
      refine TO.skip rfl rfl rfl (skipT hb8) rfl rfl ?_
      refine TO.skip rfl rfl rfl (skipT hb8) rfl rfl ?_
      refine TO.skip rfl rfl rfl (skipT hb8) rfl rfl ?_
      refine TO.skip rfl rfl rfl (skipT hb8) rfl rfl ?_
      refine TO.skip rfl rfl rfl (skipT hb8) rfl rfl ?_
      refine TO.skip rfl rfl rfl (skipT hb8) rfl rfl ?_
      refine TO.skip rfl rfl rfl (skipT hb8) rfl rfl ?_
      refine TO.skip rfl rfl rfl (skipT hb8) rfl rfl ?_
      refine TO.skip rfl rfl rfl (skipT hb8) rfl rfl ?_
      refine TO.s rfl rfl rfl (StepS.pickT rfl hb8 rfl) ?_
      exact TO.up1 10 0 rfl rfl rfl rfl
    · replace hj10 := cond_f hb8 hj10
      refine TO.sw rfl rfl rfl hb8 rfl rfl (StepS.move rfl) ?_
      refine TO.sw rfl rfl rfl hb8 rfl rfl (StepS.nilc rfl) ?_
      refine TO.sw rfl rfl rfl hb8 rfl rfl (StepS.fld rfl kfieldB_203_1_1_true) ?_
      refine TO.sw rfl rfl rfl hb8 rfl rfl (StepS.ldB rfl (Ent.at 0 rfl) kscalB_50_true rfl) ?_
      refine TO.sw rfl rfl rfl hb8 rfl rfl (StepS.move rfl) ?_
      obtain ⟨x11, hx12, hj10⟩ := bind_some hj10
      refine TO.sw rfl rfl rfl hb8 rfl rfl (StepS.idxRR rfl rfl (SS.rr (Ent.at 2 rfl)) ksliceB_50_22_1_true hx12) ?_
      refine TO.sw rfl rfl rfl hb8 rfl rfl (StepS.ldRR rfl (SS.rr (Ent.at 2 rfl)) kscalB_22_true hx12) ?_
      refine TO.sw rfl rfl rfl hb8 rfl rfl (StepS.lenm rfl (RR.row (SS.rr (Ent.at 2 rfl)) hx12) ksliceB_22_3_1_true rfl) ?_
      refine TO.sw rfl rfl rfl hb8 rfl rfl (StepS.cmp rfl rfl rfl) ?_
      cases hj10
      refine TO.s rfl rfl rfl (StepS.pickF rfl hb8 rfl) ?_
      exact TO.up1 10 0 rfl rfl rfl rfl
  refine TO.code ?_
  refine TC.cond rfl (fun hc14 => ?_) (fun hc14 => ?_)
  · replace hm := cond_t hc14 hm
    cases hm
    refine TC.ret fun a w e s => ?_
    refine FRet.mk0 (P := Try.prog) (fn := Try.f127) e rfl ?_
    refine ⟨_, _, rfl, ⟨(h0_3), h0_4, h0_5, rfl, rfl⟩, ?_⟩
    refine s.mono fun _ s => ?_
    replace s := Sat.front 3 rfl s
    replace s := Sat.front 3 rfl s
    replace s := Sat.front 3 rfl s
    replace s := Sat.front 3 rfl s
    exact s
  · replace hm := cond_f hc14 hm
    refine TC.skipk ?_
    refine TC.k ?_
    refine TC.region ?_
    refine TO.s rfl rfl rfl (StepS.move rfl) ?_
    refine TO.s rfl rfl rfl (StepS.nilc rfl) ?_
    refine TO.s rfl rfl rfl (StepS.fld rfl kfieldB_203_1_1_true) ?_
    refine TO.s rfl rfl rfl (StepS.ldB rfl (Ent.at 0 rfl) kscalB_50_true rfl) ?_
    refine TO.s rfl rfl rfl (StepS.move rfl) ?_
    obtain ⟨x15, hx16, hm⟩ := bind_some hm
    refine TO.s rfl rfl rfl (StepS.idxRR rfl rfl (SS.rr (Ent.at 2 rfl)) ksliceB_50_22_1_true hx16) ?_
    refine TO.s rfl rfl rfl (StepS.ldRR rfl (SS.rr (Ent.at 2 rfl)) kscalB_22_true hx16) ?_
    obtain ⟨x18, hx19, hm⟩ := bind_some hm
    refine TO.s rfl rfl rfl (StepS.idx rfl rfl (RR.row (SS.rr (Ent.at 2 rfl)) hx16) ksliceB_22_3_1_true (idx_spec hx19).1 (idxm_lt hx19)) ?_
    refine TO.s rfl rfl rfl (StepS.ld0 rfl (RR.row (SS.rr (Ent.at 2 rfl)) hx16) kscalB_3_true rfl (idxm hx19) rfl) ?_
    refine TO.s rfl rfl rfl (StepS.assign rfl) ?_
    refine TO.code ?_
    refine TC.k ?_
    refine TC.region_tail 14 kfollows_mixedOrders_true (by kernel_rfl) ?_
    refine TS.s rfl rfl rfl (StepS.move rfl) ?_
    refine TS.s rfl rfl rfl (StepS.nilc rfl) ?_
    refine TS.s rfl rfl rfl (StepS.fld rfl kfieldB_203_1_1_true) ?_
    refine TS.s rfl rfl rfl (StepS.ldB rfl (Ent.at 0 rfl) kscalB_50_true rfl) ?_
    refine TS.s rfl rfl rfl (StepS.move rfl) ?_
    refine TS.s rfl rfl rfl (StepS.move rfl) ?_
    refine TS.s rfl rfl rfl (StepS.nilc rfl) ?_
    refine TS.s rfl rfl rfl (StepS.fld rfl kfieldB_203_1_1_true) ?_
    refine TS.s rfl rfl rfl (StepS.ldB rfl (Ent.at 0 rfl) kscalB_50_true rfl) ?_
    refine TS.s rfl rfl rfl (StepS.move rfl) ?_
    obtain ⟨x20, hx21, hm⟩ := bind_some hm
    refine TS.s rfl rfl rfl (StepS.idxRR rfl rfl (SS.rr (Ent.at 2 rfl)) ksliceB_50_22_1_true hx21) ?_
    refine TS.s rfl rfl rfl (StepS.ldRR rfl (SS.rr (Ent.at 2 rfl)) kscalB_22_true hx21) ?_
    obtain ⟨y23, hs24, hm⟩ := bind_some hm
    obtain ⟨hs24a, hs24b, hs24c, _⟩ := slI_spec hs24
    refine TS.s rfl rfl rfl (StepS.slc rfl (RR.row (SS.rr (Ent.at 2 rfl)) hx21) ksliceB_22_3_1_true rfl (by simp [bnd]) hs24a hs24b (by simpa using hs24c)) ?_
    obtain ⟨x26, hx27, hm⟩ := bind_some hm
    refine TS.s rfl rfl rfl (StepS.idxRR rfl rfl (SS.rr (Ent.at 2 rfl)) ksliceB_50_22_1_true hx27) ?_
    refine TS.nil ?_
    refine TO.at ?_
    refine TO.ghost (fun _ s => Sat.front 2 rfl s) ?_
    refine TO.ghost (fun _ s => Sat.openRow hx21 s) ?_
    refine TO.ghost (fun _ s => Sat.cutF 0 rfl hs24 s) ?_
    refine TO.ghost (fun _ s => Sat.front 1 rfl s) ?_
    refine TO.stRowH (xs := y23) rfl rfl hx27 ksizeB_22_1_true ?_
    refine TO.code ?_
    refine TC.k ?_
    refine TC.k ?_
    refine TC.region ?_
    refine TO.s rfl rfl rfl (StepS.move rfl) ?_
    refine TO.s rfl rfl rfl (StepS.move rfl) ?_
    refine TO.s rfl rfl rfl (StepS.cmp rfl rfl rfl) ?_
    refine TO.code ?_
    refine TC.cond rfl (fun hc29 => ?_) (fun hc29 => ?_)
    · replace hm := cond_t hc29 hm
      refine TC.k ?_
      refine TC.region ?_
      refine TO.s rfl rfl rfl (StepS.move rfl) ?_
      refine TO.s rfl rfl rfl (StepS.move rfl) ?_
      refine TO.s rfl rfl rfl (StepS.nilc rfl) ?_
      refine TO.s rfl rfl rfl (StepS.fld rfl kfieldB_203_3_3_true) ?_
      refine TO.stB (us := [I a1]) 1 [h0_1, h0_2, I a0.2.2.1, I a1, .map (some h0_4)] rfl rfl rfl ksizeB_3_1_true rfl rfl rfl (by simp [Value.oneCell']) rfl ?_
      refine TO.code ?_
      cases hm
      refine TC.ret fun a w e s => ?_
      refine FRet.mk0 (P := Try.prog) (fn := Try.f127) e rfl ?_
      refine ⟨_, _, rfl, ⟨((h0_3.set a1.toNat (subv (rowv h0_3 a1.toNat) 1 (x20.length : Int) 1))), h0_4, h0_5, rfl, rfl⟩, ?_⟩
      refine s.mono fun _ s => ?_
      replace s := Sat.front 3 rfl s
      replace s := Sat.front 1 rfl s
      replace s := Sat.front 3 rfl s
      replace s := Sat.front 3 rfl s
      exact s
    · replace hm := cond_f hc29 hm
      refine TC.skipk ?_
      refine TC.k ?_
      refine TC.region ?_
      refine TO.s rfl rfl rfl (StepS.move rfl) ?_
      refine TO.s rfl rfl rfl (StepS.move rfl) ?_
      refine TO.s rfl rfl rfl (StepS.nilc rfl) ?_
      refine TO.s rfl rfl rfl (StepS.fld rfl kfieldB_203_0_0_true) ?_
      refine TO.s rfl rfl rfl (StepS.ldB rfl (Ent.at 1 rfl) kscalB_22_true rfl) ?_
      refine TO.s rfl rfl rfl (StepS.move rfl) ?_
      refine TO.s rfl rfl rfl (StepS.move rfl) ?_
      refine TO.s rfl rfl rfl (StepS.nilc rfl) ?_
      refine TO.s rfl rfl rfl (StepS.fld rfl kfieldB_203_2_2_true) ?_
      refine TO.stB (us := [I (-1)]) 1 [h0_1, h0_2, I (-1), I a0.2.2.2.1, .map (some h0_4)] rfl rfl rfl ksizeB_3_1_true rfl rfl rfl (by simp [Value.oneCell']) rfl ?_
      obtain ⟨x30, hx31, hm⟩ := bind_some hm
      refine TO.s rfl rfl rfl (StepS.idx rfl rfl (OwnS.rd (Ent.at 2 rfl)) ksliceB_22_3_1_true (idx_spec hx31).1 (idxm_lt hx31)) ?_
      refine TO.stO (i := a1.toNat) (off := 0) (us := [I x18]) 2 x18 rfl rfl rfl ksizeB_3_1_true rfl rfl rfl (idx_spec hx31).2 rfl (by simp [Value.oneCell']) rfl ?_
      refine TO.code ?_
      refine TC.k ?_
      refine TC.region ?_
      refine TO.s rfl rfl rfl (StepS.move rfl) ?_
      refine TO.s rfl rfl rfl (StepS.move rfl) ?_
      refine TO.s rfl rfl rfl (StepS.move rfl) ?_
      refine TO.ghost (fun _ s => Sat.front 3 rfl s) ?_
      refine TO.ghost (fun _ s => Sat.front 2 rfl s) ?_
      obtain ⟨r32, hc33, hm⟩ := bind_some hm
      refine TO.callO kcallB_139_true rfl rfl rfl (fun _ st => C139 (a0 := a0.2.2.2.2)  hc33 st) ?_
      rintro _ _ ⟨r34, hd35, rfl, rfl⟩
      refine TO.code ?_
      refine TC.k ?_
      refine TC.region ?_
      refine TO.s rfl rfl rfl (StepS.move rfl) ?_
      refine TO.s rfl rfl rfl (StepS.nilc rfl) ?_
      refine TO.s rfl rfl rfl (StepS.fld rfl kfieldB_203_1_1_true) ?_
      refine TO.s rfl rfl rfl (StepS.ldB rfl (Ent.at 0 rfl) kscalB_50_true rfl) ?_
      refine TO.s rfl rfl rfl (StepS.move rfl) ?_
      obtain ⟨x37, hx38, hm⟩ := bind_some hm
      refine TO.s rfl rfl rfl (StepS.idxRR rfl rfl (SS.rr (Ent.at 2 rfl)) ksliceB_50_22_1_true hx38) ?_
      refine TO.s rfl rfl rfl (StepS.ldRR rfl (SS.rr (Ent.at 2 rfl)) kscalB_22_true hx38) ?_
      refine TO.s rfl rfl rfl (StepS.lenm rfl (RR.row (SS.rr (Ent.at 2 rfl)) hx38) ksliceB_22_3_1_true rfl) ?_
      refine TO.s rfl rfl rfl (StepS.cmp rfl rfl rfl) ?_
      refine TO.code ?_
      refine TC.cond rfl (fun hc40 => ?_) (fun hc40 => ?_)
      · replace hm := cond_t hc40 hm
        refine TC.region ?_
        refine TO.s rfl rfl rfl (StepS.move rfl) ?_
        refine TO.s rfl rfl rfl (StepS.move rfl) ?_
        refine TO.s rfl rfl rfl (StepS.move rfl) ?_
        refine TO.ghost (fun _ s => Sat.front 1 rfl s) ?_
        refine TO.ghost (fun _ s => Sat.front 1 rfl s) ?_
        obtain ⟨r41, hc42, hm⟩ := bind_some hm
        refine TO.callO kcallB_139_true rfl rfl rfl (fun _ st => C139 (a0 := r32)  hc42 st) ?_
        rintro _ _ ⟨r43, hd44, rfl, rfl⟩
        cases hm
        refine TO.nil fun a w e s => ?_
        refine FRet.mk0 (P := Try.prog) (fn := Try.f127) e rfl ?_
        refine ⟨_, _, rfl, ⟨((h0_3.set a1.toNat (subv (rowv h0_3 a1.toNat) 1 (x20.length : Int) 1))), r43, hd44, rfl, rfl⟩, ?_⟩
        refine s.mono fun _ s => ?_
        replace s := Sat.front 1 rfl s
        replace s := Sat.front 2 rfl s
        replace s := Sat.front 3 rfl s
        replace s := Sat.front 3 rfl s
        exact s
      · replace hm := cond_f hc40 hm
        cases hm
        refine TC.skip fun a w e s => ?_
        refine FRet.mk0 (P := Try.prog) (fn := Try.f127) e rfl ?_
        refine ⟨_, _, rfl, ⟨((h0_3.set a1.toNat (subv (rowv h0_3 a1.toNat) 1 (x20.length : Int) 1))), r34, hd35, rfl, rfl⟩, ?_⟩
        refine s.mono fun _ s => ?_
        replace s := Sat.front 1 rfl s
        replace s := Sat.front 2 rfl s
        replace s := Sat.front 3 rfl s
        replace s := Sat.front 3 rfl s
        exact s

set_option maxRecDepth 100000 in
theorem C126 {B : World} {L : List HP} {a0 : (List Int) × (List (List Int)) × Int × Int × ((Int × Int) → Option (List Bool))} {a1 : Int} {a2 : Int} {b0_ : Nat} {h0_1 : Value} {h0_2 : Value} {h0_3 : List Value} {h0_4 : Nat} {h0_5 : (Int × Int) → Value} {s0 : (List Int) × (List (List Int)) × Int × Int × ((Int × Int) → Option (List Bool))} (hm : F126 a0 a1 a2 = some s0) {w : World} (st : St B (Bx b0_ 203 [h0_1, h0_2, I a0.2.2.1, I a0.2.2.2.1, .map (some h0_4)] :: OwnS 3 1 h0_1 (a0.1.map cI) :: SS 22 3 1 cI h0_2 h0_3 (a0.2.1) :: MS (fun k : Int × Int => .agg #[I k.1, I k.2]) 4 1 cB h0_4 h0_5 (a0.2.2.2.2) :: L) w) : Calls Try.prog 126 #[.pointer (some ⟨b0_, 0, none⟩), I a1, I a2] w (fun e w' => ∃ v M, e = .returned v ∧ (∃ (qhs1 : List Value) (qr2 : Nat) (qhd3 : (Int × Int) → Value), v = .tuple #[] ∧ M = (Bx b0_ 203 [h0_1, h0_2, I s0.2.2.1, I s0.2.2.2.1, .map (some qr2)] :: OwnS 3 1 h0_1 (s0.1.map cI) :: SS 22 3 1 cI h0_2 qhs1 (s0.2.1) :: MS (fun k : Int × Int => .agg #[I k.1, I k.2]) 4 1 cB qr2 qhd3 (s0.2.2.2.2) :: L)) ∧ St B M w') := by
  refine calls_of (N := 55) (L := (Bx b0_ 203 [h0_1, h0_2, I a0.2.2.1, I a0.2.2.2.1, .map (some h0_4)] :: OwnS 3 1 h0_1 (a0.1.map cI) :: SS 22 3 1 cI h0_2 h0_3 (a0.2.1) :: MS (fun k : Int × Int => .agg #[I k.1, I k.2]) 4 1 cB h0_4 h0_5 (a0.2.2.2.2) :: L)) (args := [.pointer (some ⟨b0_, 0, none⟩), I a1, I a2]) Try.func126 rfl rfl rfl ?_ st
  dsimp only [F126] at hm
  refine TC.k ?_
  obtain ⟨y8, hj10, hm⟩ := bind_some hm
  first | refine TC.cutM (fun a w => ∃ hs9 : List Value, Mid 55 B [(0, .pointer (some ⟨b0_, 0, none⟩)), (1, I a1)] (Bx b0_ 203 [h0_1, h0_2, I a0.2.2.1, I a0.2.2.2.1, .map (some h0_4)] :: OwnS 3 1 h0_1 (a0.1.map cI) :: SS 22 3 1 cI h0_2 hs9 (y8) :: MS (fun k : Int × Int => .agg #[I k.1, I k.2]) 4 1 cB h0_4 h0_5 (a0.2.2.2.2) :: L) a w) ?_ ?_ | refine TC.cutX (fun a w => ∃ hs9 : List Value, Mid 55 B [(0, .pointer (some ⟨b0_, 0, none⟩)), (1, I a1)] (Bx b0_ 203 [h0_1, h0_2, I a0.2.2.1, I a0.2.2.2.1, .map (some h0_4)] :: OwnS 3 1 h0_1 (a0.1.map cI) :: SS 22 3 1 cI h0_2 hs9 (y8) :: MS (fun k : Int × Int => .agg #[I k.1, I k.2]) 4 1 cB h0_4 h0_5 (a0.2.2.2.2) :: L) a w) ?_ ?_
  · obtain ⟨xq7_10_1, hxq7_10_2, hj10⟩ := bind_some hj10
    obtain ⟨yq7_14_2, hkq7_14_3, hj10⟩ := bind_some hj10
    obtain ⟨xq7_15_1, hxq7_15_2, hj10⟩ := bind_some hj10
    refine TC.region_any (Bx b0_ 203 [h0_1, h0_2, I a0.2.2.1, I a0.2.2.2.1, .map (some h0_4)] :: OwnS 3 1 h0_1 (a0.1.map cI) :: MS (fun k : Int × Int => .agg #[I k.1, I k.2]) 4 1 cB h0_4 h0_5 (a0.2.2.2.2) :: L) 16 17 kfollows_mixedOrders_true rfl ?_
    refine TA.takeW 0 rfl rfl rfl rfl (StepS.move rfl) (by kernel_rfl) (by kernel_rfl) (by kernel_rfl) rfl (.inr (fun _ s => Sat.by [3, 2, 2] 3 1 (by kernel_rfl) s)) ?_
    refine TA.takeW 1 rfl rfl rfl rfl (StepS.nilc rfl) (by kernel_rfl) (by kernel_rfl) (by kernel_rfl) rfl (.inr (fun _ s => Sat.by [3, 2, 2] 3 1 (by kernel_rfl) s)) ?_
    refine TA.takeW 2 rfl rfl rfl rfl (StepS.fld rfl kfieldB_203_1_1_true) (by kernel_rfl) (by kernel_rfl) (by kernel_rfl) rfl (.inr (fun _ s => Sat.by [3, 2, 2] 3 1 (by kernel_rfl) s)) ?_
    refine TA.take 3 rfl rfl rfl rfl (StepS.ldB rfl (Ent.at 0 rfl) kscalB_50_true rfl) (by kernel_rfl) (by kernel_rfl) (by kernel_rfl) (by kernel_rfl) (by kernel_rfl) (fun _ s => Sat.by [3, 2, 2] 3 1 (by kernel_rfl) s) ?_
    refine TA.takeW 4 rfl rfl rfl rfl (StepS.move rfl) (by kernel_rfl) (by kernel_rfl) (by kernel_rfl) rfl (.inr (fun _ s => Sat.by [3, 2, 2] 3 1 (by kernel_rfl) s)) ?_
    refine TA.takeW 5 rfl rfl rfl rfl (StepS.move rfl) (by kernel_rfl) (by kernel_rfl) (by kernel_rfl) rfl (.inr (fun _ s => Sat.by [3, 2, 2] 3 1 (by kernel_rfl) s)) ?_
    refine TA.takeW 6 rfl rfl rfl rfl (StepS.nilc rfl) (by kernel_rfl) (by kernel_rfl) (by kernel_rfl) rfl (.inr (fun _ s => Sat.by [3, 2, 2] 3 1 (by kernel_rfl) s)) ?_
    refine TA.takeW 7 rfl rfl rfl rfl (StepS.fld rfl kfieldB_203_1_1_true) (by kernel_rfl) (by kernel_rfl) (by kernel_rfl) rfl (.inr (fun _ s => Sat.by [3, 2, 2] 3 1 (by kernel_rfl) s)) ?_
    refine TA.take 8 rfl rfl rfl rfl (StepS.ldB rfl (Ent.at 0 rfl) kscalB_50_true rfl) (by kernel_rfl) (by kernel_rfl) (by kernel_rfl) (by kernel_rfl) (by kernel_rfl) (fun _ s => Sat.by [3, 2, 2] 3 1 (by kernel_rfl) s) ?_
    refine TA.takeW 9 rfl rfl rfl rfl (StepS.move rfl) (by kernel_rfl) (by kernel_rfl) (by kernel_rfl) rfl (.inr (fun _ s => Sat.by [3, 2, 2] 3 1 (by kernel_rfl) s)) ?_
    refine TA.takeW 12 rfl rfl rfl rfl (StepS.move rfl) (by kernel_rfl) (by kernel_rfl) (by kernel_rfl) rfl (.inr (fun _ s => Sat.by [3, 2, 2] 3 1 (by kernel_rfl) s)) ?_
    refine TA.all2 (i := 10) (j := 13) (by kernel_rfl) ?_ ?_
    · refine TB.of rfl ?_
      refine TO.s rfl rfl rfl (StepS.idxRR rfl rfl (SS.rr (Ent.at 2 rfl)) ksliceB_50_22_1_true hxq7_10_2) ?_
      refine TA.back (.inr (fun _ s => Sat.by [3, 2, 2] 3 1 (by kernel_rfl) s)) ?_
      refine TA.asL (L' := (Bx b0_ 203 [h0_1, h0_2, I a0.2.2.1, I a0.2.2.2.1, .map (some h0_4)] :: OwnS 3 1 h0_1 (a0.1.map cI) :: SS 22 3 1 cI h0_2 h0_3 (a0.2.1) :: MS (fun k : Int × Int => .agg #[I k.1, I k.2]) 4 1 cB h0_4 h0_5 (a0.2.2.2.2) :: L)) (listed' := #[true, true, true, true, true, true, true, true, true, true, true, false, true, false, false, false, false]) (by kernel_rfl) (by kernel_rfl) ?_
      refine TA.all2 (i := 11) (j := 13) (by kernel_rfl) ?_ ?_
      · refine TB.of rfl ?_
        refine TO.s rfl rfl rfl (StepS.ldRR rfl (SS.rr (Ent.at 2 rfl)) kscalB_22_true hxq7_10_2) ?_
        refine TA.back (.inr (fun _ s => Sat.by [3, 2, 2] 3 1 (by kernel_rfl) s)) ?_
        refine TA.asL (L' := (Bx b0_ 203 [h0_1, h0_2, I a0.2.2.1, I a0.2.2.2.1, .map (some h0_4)] :: OwnS 3 1 h0_1 (a0.1.map cI) :: SS 22 3 1 cI h0_2 h0_3 (a0.2.1) :: MS (fun k : Int × Int => .agg #[I k.1, I k.2]) 4 1 cB h0_4 h0_5 (a0.2.2.2.2) :: L)) (listed' := #[true, true, true, true, true, true, true, true, true, true, true, true, true, false, false, false, false]) (by kernel_rfl) (by kernel_rfl) ?_
        refine TA.all1 (i := 13) (by kernel_rfl) ?_
        refine TB.of rfl ?_
        refine TO.litS (f := cI) ([a2] : List Int) kelemB_22_3_1_8_true kinfo_3_bind_zero_some_I_0 rfl rfl (fun _ => rfl) rfl rfl (by kernel_rfl) rfl fun vq7_13_1 => ?_
        refine TA.back (.inr (fun _ s => Sat.by [4, 3, 3] 3 2 (by kernel_rfl) s)) ?_
        refine TA.asL (L' := (OwnS 3 1 vq7_13_1 (([a2] : List Int).map cI) :: Bx b0_ 203 [h0_1, h0_2, I a0.2.2.1, I a0.2.2.2.1, .map (some h0_4)] :: OwnS 3 1 h0_1 (a0.1.map cI) :: SS 22 3 1 cI h0_2 h0_3 (a0.2.1) :: MS (fun k : Int × Int => .agg #[I k.1, I k.2]) 4 1 cB h0_4 h0_5 (a0.2.2.2.2) :: L)) (listed' := #[true, true, true, true, true, true, true, true, true, true, true, true, true, true, false, false, false]) (by kernel_rfl) (by kernel_rfl) ?_
        refine TA.all1 (i := 14) (by kernel_rfl) ?_
        refine TB.of rfl ?_
        refine TO.ghost (fun _ s => Sat.front 3 rfl s) ?_
        refine TO.ghost (fun _ s => Sat.openRow hxq7_10_2 s) ?_
        refine TO.app (k := 0) (f := cI) kelemB_22_3_1_8_true (by decide) rfl rfl rfl (OwnS.rd (Ent.at 2 rfl)) hkq7_14_3 (fun x c hc => by simp [Value.oneCell'] at hc ⊢; first | (obtain rfl := hc; rfl) | (rcases hc with rfl <;> rfl)) rfl rfl fun vq7_14_4 => ?_
        refine TA.back (.inr (fun _ s => Sat.by [5, 5, 5] 3 3 (by kernel_rfl) s)) ?_
        refine TA.asL (L' := (OwnS 3 1 vq7_14_4 (yq7_14_2.map cI) :: SSh 22 3 1 cI h0_2 h0_3 (a0.2.1) a1.toNat :: OwnS 3 1 vq7_13_1 (([a2] : List Int).map cI) :: Bx b0_ 203 [h0_1, h0_2, I a0.2.2.1, I a0.2.2.2.1, .map (some h0_4)] :: OwnS 3 1 h0_1 (a0.1.map cI) :: MS (fun k : Int × Int => .agg #[I k.1, I k.2]) 4 1 cB h0_4 h0_5 (a0.2.2.2.2) :: L)) (listed' := #[true, true, true, true, true, true, true, true, true, true, true, true, true, true, true, false, false]) (by kernel_rfl) (by kernel_rfl) ?_
        refine TA.all1 (i := 15) (by kernel_rfl) ?_
        refine TB.of rfl ?_
        refine TO.s rfl rfl rfl (StepS.idxRH rfl rfl (Ent.at 1 rfl) ksliceB_50_22_1_true hxq7_15_2) ?_
        refine TA.back (.inr (fun _ s => Sat.by [5, 5, 5] 3 3 (by kernel_rfl) s)) ?_
        refine TA.asL (L' := (OwnS 3 1 vq7_14_4 (yq7_14_2.map cI) :: SSh 22 3 1 cI h0_2 h0_3 (a0.2.1) a1.toNat :: OwnS 3 1 vq7_13_1 (([a2] : List Int).map cI) :: Bx b0_ 203 [h0_1, h0_2, I a0.2.2.1, I a0.2.2.2.1, .map (some h0_4)] :: OwnS 3 1 h0_1 (a0.1.map cI) :: MS (fun k : Int × Int => .agg #[I k.1, I k.2]) 4 1 cB h0_4 h0_5 (a0.2.2.2.2) :: L)) (listed' := #[true, true, true, true, true, true, true, true, true, true, true, true, true, true, true, true, false]) (by kernel_rfl) (by kernel_rfl) ?_
        refine TA.all1 (i := 16) (by kernel_rfl) ?_
        refine TB.of rfl ?_
        refine TO.ghost (fun _ s => Sat.front 1 rfl s) ?_
        refine TO.stRowH (xs := yq7_14_2) rfl rfl hxq7_15_2 ksizeB_22_1_true ?_
        refine TA.back (.inl (by kernel_rfl)) ?_
        refine TA.asL (L' := (SS 22 3 1 cI h0_2 (h0_3.set a1.toNat vq7_14_4) (a0.2.1.set a1.toNat yq7_14_2) :: OwnS 3 1 vq7_13_1 (([a2] : List Int).map cI) :: Bx b0_ 203 [h0_1, h0_2, I a0.2.2.1, I a0.2.2.2.1, .map (some h0_4)] :: OwnS 3 1 h0_1 (a0.1.map cI) :: MS (fun k : Int × Int => .agg #[I k.1, I k.2]) 4 1 cB h0_4 h0_5 (a0.2.2.2.2) :: L)) (listed' := #[true, true, true, true, true, true, true, true, true, true, true, true, true, true, true, true, true]) (by kernel_rfl) (by kernel_rfl) ?_
        cases hj10
        refine TA.nil (by kernel_rfl) fun a w e s => ?_
        exact ⟨(h0_3.set a1.toNat vq7_14_4), e.sub (lk_of_allIn ⟨rfl, rfl, trivial⟩), s.mono fun _ s => (by exact Sat.by [4, 1, 4, 4] 4 1 (by kernel_rfl) s)⟩
      · refine TB.of rfl ?_
        refine TO.litS (f := cI) ([a2] : List Int) kelemB_22_3_1_8_true kinfo_3_bind_zero_some_I_0 rfl rfl (fun _ => rfl) rfl rfl (by kernel_rfl) rfl fun vq7_13_1 => ?_
        refine TA.back (.inr (fun _ s => Sat.by [4, 3, 3] 3 2 (by kernel_rfl) s)) ?_
        refine TA.asL (L' := (OwnS 3 1 vq7_13_1 (([a2] : List Int).map cI) :: Bx b0_ 203 [h0_1, h0_2, I a0.2.2.1, I a0.2.2.2.1, .map (some h0_4)] :: OwnS 3 1 h0_1 (a0.1.map cI) :: SS 22 3 1 cI h0_2 h0_3 (a0.2.1) :: MS (fun k : Int × Int => .agg #[I k.1, I k.2]) 4 1 cB h0_4 h0_5 (a0.2.2.2.2) :: L)) (listed' := #[true, true, true, true, true, true, true, true, true, true, true, false, true, true, false, false, false]) (by kernel_rfl) (by kernel_rfl) ?_
        refine TA.all1 (i := 11) (by kernel_rfl) ?_
        refine TB.of rfl ?_
        refine TO.s rfl rfl rfl (StepS.ldRR rfl (SS.rr (Ent.at 3 rfl)) kscalB_22_true hxq7_10_2) ?_
        refine TA.back (.inr (fun _ s => Sat.by [4, 3, 3] 3 2 (by kernel_rfl) s)) ?_
        refine TA.asL (L' := (OwnS 3 1 vq7_13_1 (([a2] : List Int).map cI) :: Bx b0_ 203 [h0_1, h0_2, I a0.2.2.1, I a0.2.2.2.1, .map (some h0_4)] :: OwnS 3 1 h0_1 (a0.1.map cI) :: SS 22 3 1 cI h0_2 h0_3 (a0.2.1) :: MS (fun k : Int × Int => .agg #[I k.1, I k.2]) 4 1 cB h0_4 h0_5 (a0.2.2.2.2) :: L)) (listed' := #[true, true, true, true, true, true, true, true, true, true, true, true, true, true, false, false, false]) (by kernel_rfl) (by kernel_rfl) ?_
        refine TA.all1 (i := 14) (by kernel_rfl) ?_
        refine TB.of rfl ?_
        refine TO.ghost (fun _ s => Sat.front 3 rfl s) ?_
        refine TO.ghost (fun _ s => Sat.openRow hxq7_10_2 s) ?_
        refine TO.app (k := 0) (f := cI) kelemB_22_3_1_8_true (by decide) rfl rfl rfl (OwnS.rd (Ent.at 2 rfl)) hkq7_14_3 (fun x c hc => by simp [Value.oneCell'] at hc ⊢; first | (obtain rfl := hc; rfl) | (rcases hc with rfl <;> rfl)) rfl rfl fun vq7_14_4 => ?_
        refine TA.back (.inr (fun _ s => Sat.by [5, 5, 5] 3 3 (by kernel_rfl) s)) ?_
        refine TA.asL (L' := (OwnS 3 1 vq7_14_4 (yq7_14_2.map cI) :: SSh 22 3 1 cI h0_2 h0_3 (a0.2.1) a1.toNat :: OwnS 3 1 vq7_13_1 (([a2] : List Int).map cI) :: Bx b0_ 203 [h0_1, h0_2, I a0.2.2.1, I a0.2.2.2.1, .map (some h0_4)] :: OwnS 3 1 h0_1 (a0.1.map cI) :: MS (fun k : Int × Int => .agg #[I k.1, I k.2]) 4 1 cB h0_4 h0_5 (a0.2.2.2.2) :: L)) (listed' := #[true, true, true, true, true, true, true, true, true, true, true, true, true, true, true, false, false]) (by kernel_rfl) (by kernel_rfl) ?_
        refine TA.all1 (i := 15) (by kernel_rfl) ?_
        refine TB.of rfl ?_
        refine TO.s rfl rfl rfl (StepS.idxRH rfl rfl (Ent.at 1 rfl) ksliceB_50_22_1_true hxq7_15_2) ?_
        refine TA.back (.inr (fun _ s => Sat.by [5, 5, 5] 3 3 (by kernel_rfl) s)) ?_
        refine TA.asL (L' := (OwnS 3 1 vq7_14_4 (yq7_14_2.map cI) :: SSh 22 3 1 cI h0_2 h0_3 (a0.2.1) a1.toNat :: OwnS 3 1 vq7_13_1 (([a2] : List Int).map cI) :: Bx b0_ 203 [h0_1, h0_2, I a0.2.2.1, I a0.2.2.2.1, .map (some h0_4)] :: OwnS 3 1 h0_1 (a0.1.map cI) :: MS (fun k : Int × Int => .agg #[I k.1, I k.2]) 4 1 cB h0_4 h0_5 (a0.2.2.2.2) :: L)) (listed' := #[true, true, true, true, true, true, true, true, true, true, true, true, true, true, true, true, false]) (by kernel_rfl) (by kernel_rfl) ?_
        refine TA.all1 (i := 16) (by kernel_rfl) ?_
        refine TB.of rfl ?_
        refine TO.ghost (fun _ s => Sat.front 1 rfl s) ?_
        refine TO.stRowH (xs := yq7_14_2) rfl rfl hxq7_15_2 ksizeB_22_1_true ?_
        refine TA.back (.inl (by kernel_rfl)) ?_
        refine TA.asL (L' := (SS 22 3 1 cI h0_2 (h0_3.set a1.toNat vq7_14_4) (a0.2.1.set a1.toNat yq7_14_2) :: OwnS 3 1 vq7_13_1 (([a2] : List Int).map cI) :: Bx b0_ 203 [h0_1, h0_2, I a0.2.2.1, I a0.2.2.2.1, .map (some h0_4)] :: OwnS 3 1 h0_1 (a0.1.map cI) :: MS (fun k : Int × Int => .agg #[I k.1, I k.2]) 4 1 cB h0_4 h0_5 (a0.2.2.2.2) :: L)) (listed' := #[true, true, true, true, true, true, true, true, true, true, true, true, true, true, true, true, true]) (by kernel_rfl) (by kernel_rfl) ?_
        cases hj10
        refine TA.nil (by kernel_rfl) fun a w e s => ?_
        exact ⟨(h0_3.set a1.toNat vq7_14_4), e.sub (lk_of_allIn ⟨rfl, rfl, trivial⟩), s.mono fun _ s => (by exact Sat.by [4, 1, 4, 4] 4 1 (by kernel_rfl) s)⟩
    · refine TB.of rfl ?_
      refine TO.litS (f := cI) ([a2] : List Int) kelemB_22_3_1_8_true kinfo_3_bind_zero_some_I_0 rfl rfl (fun _ => rfl) rfl rfl (by kernel_rfl) rfl fun vq7_13_1 => ?_
      refine TA.back (.inr (fun _ s => Sat.by [4, 3, 3] 3 2 (by kernel_rfl) s)) ?_
      refine TA.asL (L' := (OwnS 3 1 vq7_13_1 (([a2] : List Int).map cI) :: Bx b0_ 203 [h0_1, h0_2, I a0.2.2.1, I a0.2.2.2.1, .map (some h0_4)] :: OwnS 3 1 h0_1 (a0.1.map cI) :: SS 22 3 1 cI h0_2 h0_3 (a0.2.1) :: MS (fun k : Int × Int => .agg #[I k.1, I k.2]) 4 1 cB h0_4 h0_5 (a0.2.2.2.2) :: L)) (listed' := #[true, true, true, true, true, true, true, true, true, true, false, false, true, true, false, false, false]) (by kernel_rfl) (by kernel_rfl) ?_
      refine TA.all1 (i := 10) (by kernel_rfl) ?_
      refine TB.of rfl ?_
      refine TO.s rfl rfl rfl (StepS.idxRR rfl rfl (SS.rr (Ent.at 3 rfl)) ksliceB_50_22_1_true hxq7_10_2) ?_
      refine TA.back (.inr (fun _ s => Sat.by [4, 3, 3] 3 2 (by kernel_rfl) s)) ?_
      refine TA.asL (L' := (OwnS 3 1 vq7_13_1 (([a2] : List Int).map cI) :: Bx b0_ 203 [h0_1, h0_2, I a0.2.2.1, I a0.2.2.2.1, .map (some h0_4)] :: OwnS 3 1 h0_1 (a0.1.map cI) :: SS 22 3 1 cI h0_2 h0_3 (a0.2.1) :: MS (fun k : Int × Int => .agg #[I k.1, I k.2]) 4 1 cB h0_4 h0_5 (a0.2.2.2.2) :: L)) (listed' := #[true, true, true, true, true, true, true, true, true, true, true, false, true, true, false, false, false]) (by kernel_rfl) (by kernel_rfl) ?_
      refine TA.all1 (i := 11) (by kernel_rfl) ?_
      refine TB.of rfl ?_
      refine TO.s rfl rfl rfl (StepS.ldRR rfl (SS.rr (Ent.at 3 rfl)) kscalB_22_true hxq7_10_2) ?_
      refine TA.back (.inr (fun _ s => Sat.by [4, 3, 3] 3 2 (by kernel_rfl) s)) ?_
      refine TA.asL (L' := (OwnS 3 1 vq7_13_1 (([a2] : List Int).map cI) :: Bx b0_ 203 [h0_1, h0_2, I a0.2.2.1, I a0.2.2.2.1, .map (some h0_4)] :: OwnS 3 1 h0_1 (a0.1.map cI) :: SS 22 3 1 cI h0_2 h0_3 (a0.2.1) :: MS (fun k : Int × Int => .agg #[I k.1, I k.2]) 4 1 cB h0_4 h0_5 (a0.2.2.2.2) :: L)) (listed' := #[true, true, true, true, true, true, true, true, true, true, true, true, true, true, false, false, false]) (by kernel_rfl) (by kernel_rfl) ?_
      refine TA.all1 (i := 14) (by kernel_rfl) ?_
      refine TB.of rfl ?_
      refine TO.ghost (fun _ s => Sat.front 3 rfl s) ?_
      refine TO.ghost (fun _ s => Sat.openRow hxq7_10_2 s) ?_
      refine TO.app (k := 0) (f := cI) kelemB_22_3_1_8_true (by decide) rfl rfl rfl (OwnS.rd (Ent.at 2 rfl)) hkq7_14_3 (fun x c hc => by simp [Value.oneCell'] at hc ⊢; first | (obtain rfl := hc; rfl) | (rcases hc with rfl <;> rfl)) rfl rfl fun vq7_14_4 => ?_
      refine TA.back (.inr (fun _ s => Sat.by [5, 5, 5] 3 3 (by kernel_rfl) s)) ?_
      refine TA.asL (L' := (OwnS 3 1 vq7_14_4 (yq7_14_2.map cI) :: SSh 22 3 1 cI h0_2 h0_3 (a0.2.1) a1.toNat :: OwnS 3 1 vq7_13_1 (([a2] : List Int).map cI) :: Bx b0_ 203 [h0_1, h0_2, I a0.2.2.1, I a0.2.2.2.1, .map (some h0_4)] :: OwnS 3 1 h0_1 (a0.1.map cI) :: MS (fun k : Int × Int => .agg #[I k.1, I k.2]) 4 1 cB h0_4 h0_5 (a0.2.2.2.2) :: L)) (listed' := #[true, true, true, true, true, true, true, true, true, true, true, true, true, true, true, false, false]) (by kernel_rfl) (by kernel_rfl) ?_
      refine TA.all1 (i := 15) (by kernel_rfl) ?_
      refine TB.of rfl ?_
      refine TO.s rfl rfl rfl (StepS.idxRH rfl rfl (Ent.at 1 rfl) ksliceB_50_22_1_true hxq7_15_2) ?_
      refine TA.back (.inr (fun _ s => Sat.by [5, 5, 5] 3 3 (by kernel_rfl) s)) ?_
      refine TA.asL (L' := (OwnS 3 1 vq7_14_4 (yq7_14_2.map cI) :: SSh 22 3 1 cI h0_2 h0_3 (a0.2.1) a1.toNat :: OwnS 3 1 vq7_13_1 (([a2] : List Int).map cI) :: Bx b0_ 203 [h0_1, h0_2, I a0.2.2.1, I a0.2.2.2.1, .map (some h0_4)] :: OwnS 3 1 h0_1 (a0.1.map cI) :: MS (fun k : Int × Int => .agg #[I k.1, I k.2]) 4 1 cB h0_4 h0_5 (a0.2.2.2.2) :: L)) (listed' := #[true, true, true, true, true, true, true, true, true, true, true, true, true, true, true, true, false]) (by kernel_rfl) (by kernel_rfl) ?_
      refine TA.all1 (i := 16) (by kernel_rfl) ?_
      refine TB.of rfl ?_
      refine TO.ghost (fun _ s => Sat.front 1 rfl s) ?_
      refine TO.stRowH (xs := yq7_14_2) rfl rfl hxq7_15_2 ksizeB_22_1_true ?_
      refine TA.back (.inl (by kernel_rfl)) ?_
      refine TA.asL (L' := (SS 22 3 1 cI h0_2 (h0_3.set a1.toNat vq7_14_4) (a0.2.1.set a1.toNat yq7_14_2) :: OwnS 3 1 vq7_13_1 (([a2] : List Int).map cI) :: Bx b0_ 203 [h0_1, h0_2, I a0.2.2.1, I a0.2.2.2.1, .map (some h0_4)] :: OwnS 3 1 h0_1 (a0.1.map cI) :: MS (fun k : Int × Int => .agg #[I k.1, I k.2]) 4 1 cB h0_4 h0_5 (a0.2.2.2.2) :: L)) (listed' := #[true, true, true, true, true, true, true, true, true, true, true, true, true, true, true, true, true]) (by kernel_rfl) (by kernel_rfl) ?_
      cases hj10
      refine TA.nil (by kernel_rfl) fun a w e s => ?_
      exact ⟨(h0_3.set a1.toNat vq7_14_4), e.sub (lk_of_allIn ⟨rfl, rfl, trivial⟩), s.mono fun _ s => (by exact Sat.by [4, 1, 4, 4] 4 1 (by kernel_rfl) s)⟩
  · intro a w ⟨hs9, he, hs⟩
    refine TC.use ?_ he hs
    refine TC.k ?_
    refine TC.k ?_
    refine TC.region ?_
    refine TO.s rfl rfl rfl (StepS.move rfl) ?_
    refine TO.s rfl rfl rfl (StepS.nilc rfl) ?_
    refine TO.s rfl rfl rfl (StepS.fld rfl kfieldB_203_1_1_true) ?_
    refine TO.s rfl rfl rfl (StepS.ldB rfl (Ent.at 0 rfl) kscalB_50_true rfl) ?_
    refine TO.s rfl rfl rfl (StepS.move rfl) ?_
    obtain ⟨x11, hx12, hm⟩ := bind_some hm
    refine TO.s rfl rfl rfl (StepS.idxRR rfl rfl (SS.rr (Ent.at 2 rfl)) ksliceB_50_22_1_true hx12) ?_
    refine TO.s rfl rfl rfl (StepS.ldRR rfl (SS.rr (Ent.at 2 rfl)) kscalB_22_true hx12) ?_
    refine TO.s rfl rfl rfl (StepS.lenm rfl (RR.row (SS.rr (Ent.at 2 rfl)) hx12) ksliceB_22_3_1_true rfl) ?_
    refine TO.s rfl rfl rfl (StepS.cmp rfl rfl rfl) ?_
    refine TO.s rfl rfl rfl (StepS.move rfl) ?_
    obtain ⟨b15, hj16, hm⟩ := bind_some hm
    refine TO.mid1 10 41 (.bool b15) ?_ ?_
    · refine bcase (((x11.length : Int) == 1)) (fun hb14 => ?_) (fun hb14 => ?_)
      · replace hj16 := cond_t hb14 hj16
        refine TO.sw rfl rfl rfl hb14 rfl rfl (StepS.move rfl) ?_
        refine TO.sw rfl rfl rfl hb14 rfl rfl (StepS.nilc rfl) ?_
        refine TO.sw rfl rfl rfl hb14 rfl rfl (StepS.fld rfl kfieldB_203_0_0_true) ?_
        refine TO.sw rfl rfl rfl hb14 rfl rfl (StepS.ldB rfl (Ent.at 0 rfl) kscalB_22_true rfl) ?_
        refine TO.sw rfl rfl rfl hb14 rfl rfl (StepS.move rfl) ?_
        obtain ⟨x17, hx18, hj16⟩ := bind_some hj16
        refine TO.sw rfl rfl rfl hb14 rfl rfl (StepS.idx rfl rfl (OwnS.rd (Ent.at 1 rfl)) ksliceB_22_3_1_true (idx_spec hx18).1 (idxm_lt hx18)) ?_
        refine TO.sw rfl rfl rfl hb14 rfl rfl (StepS.ld0 rfl (OwnS.rd (Ent.at 1 rfl)) kscalB_3_true rfl (idxm hx18) rfl) ?_
        refine TO.sw rfl rfl rfl hb14 rfl rfl (StepS.move rfl) ?_
        refine TO.sw rfl rfl rfl hb14 rfl rfl (StepS.cmp rfl rfl rfl) ?_
        cases hj16
        refine TO.s rfl rfl rfl (StepS.pickT rfl hb14 rfl) ?_
        exact TO.up1 10 0 rfl rfl rfl rfl
      · replace hj16 := cond_f hb14 hj16
        cases hj16
        refine TO.skip rfl rfl rfl (skipF hb14) rfl rfl ?_
        refine TO.skip rfl rfl rfl (skipF hb14) rfl rfl ?_
        refine TO.skip rfl rfl rfl (skipF hb14) rfl rfl ?_
        refine TO.skip rfl rfl rfl (skipF hb14) rfl rfl ?_
        refine TO.skip rfl rfl rfl (skipF hb14) rfl rfl ?_
        refine TO.skip rfl rfl rfl (skipF hb14) rfl rfl ?_
        refine TO.skip rfl rfl rfl (skipF hb14) rfl rfl ?_
        refine TO.skip rfl rfl rfl (skipF hb14) rfl rfl ?_
        refine TO.skip rfl rfl rfl (skipF hb14) rfl rfl ?_
        refine TO.s rfl rfl rfl (StepS.pickF rfl hb14 rfl) ?_
        exact TO.up1 10 0 rfl rfl rfl rfl
    refine TO.code ?_
    obtain ⟨y21, hj23, hm⟩ := bind_some hm
    first | refine TC.cutM (fun a w => ∃ r20 : Nat, ∃ hs22 : (Int × Int) → Value, Mid 55 B [(0, .pointer (some ⟨b0_, 0, none⟩)), (1, I a1)] (MS (fun k : Int × Int => .agg #[I k.1, I k.2]) 4 1 cB r20 hs22 (y21) :: Bx b0_ 203 [h0_1, h0_2, I a0.2.2.1, I a0.2.2.2.1, .map (some r20)] :: OwnS 3 1 h0_1 (a0.1.map cI) :: SS 22 3 1 cI h0_2 hs9 (y8) :: L) a w) ?_ ?_ | refine TC.cutX (fun a w => ∃ r20 : Nat, ∃ hs22 : (Int × Int) → Value, Mid 55 B [(0, .pointer (some ⟨b0_, 0, none⟩)), (1, I a1)] (MS (fun k : Int × Int => .agg #[I k.1, I k.2]) 4 1 cB r20 hs22 (y21) :: Bx b0_ 203 [h0_1, h0_2, I a0.2.2.1, I a0.2.2.2.1, .map (some r20)] :: OwnS 3 1 h0_1 (a0.1.map cI) :: SS 22 3 1 cI h0_2 hs9 (y8) :: L) a w) ?_ ?_
    · refine TC.cond rfl (fun hc24 => ?_) (fun hc24 => ?_)
      · replace hj23 := cond_t hc24 hj23
        refine TC.region ?_
        refine TO.s rfl rfl rfl (StepS.move rfl) ?_
        refine TO.s rfl rfl rfl (StepS.move rfl) ?_
        refine TO.s rfl rfl rfl (StepS.move rfl) ?_
        refine TO.s rfl rfl rfl (StepS.nilc rfl) ?_
        refine TO.s rfl rfl rfl (StepS.fld rfl kfieldB_203_0_0_true) ?_
        refine TO.s rfl rfl rfl (StepS.ldB rfl (Ent.at 0 rfl) kscalB_22_true rfl) ?_
        refine TO.s rfl rfl rfl (StepS.move rfl) ?_
        obtain ⟨x25, hx26, hj23⟩ := bind_some hj23
        refine TO.s rfl rfl rfl (StepS.idx rfl rfl (OwnS.rd (Ent.at 1 rfl)) ksliceB_22_3_1_true (idx_spec hx26).1 (idxm_lt hx26)) ?_
        refine TO.s rfl rfl rfl (StepS.ld0 rfl (OwnS.rd (Ent.at 1 rfl)) kscalB_3_true rfl (idxm hx26) rfl) ?_
        refine TO.ghost (fun _ s => Sat.front 3 rfl s) ?_
        refine TO.ghost (fun _ s => Sat.front 1 rfl s) ?_
        obtain ⟨r27, hc28, hj23⟩ := bind_some hj23
        refine TO.callO kcallB_139_true rfl rfl rfl (fun _ st => C139 (a0 := a0.2.2.2.2)  hc28 st) ?_
        rintro _ _ ⟨r29, hd30, rfl, rfl⟩
        cases hj23
        refine TO.nil fun a w e s => ?_
        exact ⟨r29, hd30, e.sub (lk_of_allIn ⟨rfl, rfl, trivial⟩), s.mono fun _ s => (by exact Sat.by [3, 3, 2, 3] 4 0 (by kernel_rfl) s)⟩
      · replace hj23 := cond_f hc24 hj23
        cases hj23
        refine TC.skip fun a w e s => ?_
        exact ⟨h0_4, h0_5, e.sub (lk_of_allIn ⟨rfl, rfl, trivial⟩), s.mono fun _ s => (by exact Sat.by [2, 2, 2, 3] 4 0 (by kernel_rfl) s)⟩
    · intro a w ⟨r20, hs22, he, hs⟩
      refine TC.use ?_ he hs
      refine TC.region ?_
      refine TO.s rfl rfl rfl (StepS.move rfl) ?_
      refine TO.s rfl rfl rfl (StepS.move rfl) ?_
      refine TO.ghost (fun _ s => Sat.front 3 rfl s) ?_
      refine TO.ghost (fun _ s => Sat.front 3 rfl s) ?_
      refine TO.ghost (fun _ s => Sat.front 3 rfl s) ?_
      obtain ⟨r32, hc33, hm⟩ := bind_some hm
      refine TO.callO kcallB_127_true rfl rfl rfl (fun _ st => C127 (a0 := (a0.1, y8, a0.2.2.1, a0.2.2.2.1, y21))  hc33 st) ?_
      rintro _ _ ⟨hs35, r37, hd38, rfl, rfl⟩
      cases hm
      refine TO.nil fun a w e s => ?_
      refine FRet.mk0 (P := Try.prog) (fn := Try.f126) e rfl ?_
      refine ⟨_, _, rfl, ⟨(hs35), r37, hd38, rfl, rfl⟩, ?_⟩
      refine s.mono fun _ s => ?_
      replace s := Sat.front 3 rfl s
      replace s := Sat.front 3 rfl s
      replace s := Sat.front 3 rfl s
      replace s := Sat.front 3 rfl s
      exact s

set_option maxRecDepth 100000 in
theorem C125 {B : World} {L : List HP} {a0 : (List Int) × (List (List Int)) × Int × Int × ((Int × Int) → Option (List Bool))} {a1 : Int} {a2 : Int} {b0_ : Nat} {h0_1 : Value} {h0_2 : Value} {h0_3 : List Value} {h0_4 : Nat} {h0_5 : (Int × Int) → Value} {r0 : Int} {s0 : (List Int) × (List (List Int)) × Int × Int × ((Int × Int) → Option (List Bool))} (hm : F125 a0 a1 a2 = some (r0, s0)) {w : World} (st : St B (Bx b0_ 203 [h0_1, h0_2, I a0.2.2.1, I a0.2.2.2.1, .map (some h0_4)] :: OwnS 3 1 h0_1 (a0.1.map cI) :: SS 22 3 1 cI h0_2 h0_3 (a0.2.1) :: MS (fun k : Int × Int => .agg #[I k.1, I k.2]) 4 1 cB h0_4 h0_5 (a0.2.2.2.2) :: L) w) : Calls Try.prog 125 #[.pointer (some ⟨b0_, 0, none⟩), I a1, I a2] w (fun e w' => ∃ v M, e = .returned v ∧ (∃ (qhs1 : List Value) (qr2 : Nat) (qhd3 : (Int × Int) → Value), v = I r0 ∧ M = (Bx b0_ 203 [h0_1, h0_2, I s0.2.2.1, I s0.2.2.2.1, .map (some qr2)] :: OwnS 3 1 h0_1 (s0.1.map cI) :: SS 22 3 1 cI h0_2 qhs1 (s0.2.1) :: MS (fun k : Int × Int => .agg #[I k.1, I k.2]) 4 1 cB qr2 qhd3 (s0.2.2.2.2) :: L)) ∧ St B M w') := by
  refine calls_of (N := 60) (L := (Bx b0_ 203 [h0_1, h0_2, I a0.2.2.1, I a0.2.2.2.1, .map (some h0_4)] :: OwnS 3 1 h0_1 (a0.1.map cI) :: SS 22 3 1 cI h0_2 h0_3 (a0.2.1) :: MS (fun k : Int × Int => .agg #[I k.1, I k.2]) 4 1 cB h0_4 h0_5 (a0.2.2.2.2) :: L)) (args := [.pointer (some ⟨b0_, 0, none⟩), I a1, I a2]) Try.func125 rfl rfl rfl ?_ st
  dsimp only [F125] at hm
  refine TC.k ?_
  refine TC.region ?_
  refine TO.s rfl rfl rfl (StepS.assign rfl) ?_
  refine TO.code ?_
  refine TC.k ?_
  refine TC.region ?_
  refine TO.s rfl rfl rfl (StepS.move rfl) ?_
  refine TO.s rfl rfl rfl (StepS.move rfl) ?_
  refine TO.s rfl rfl rfl (StepS.build (cs := [I a1, I a2]) rfl (by kernel_rfl)) ?_
  refine TO.alloc kinfo_114_bind_zero_some_agg_I_0_I_0 rfl rfl fun b7 => ?_
  refine TO.stB (us := [I a1, I a2]) 0 [I a1, I a2] rfl rfl rfl ksizeB_114_2_true rfl rfl rfl (by simp [Value.oneCell']) rfl ?_
  refine TO.code ?_
  refine TC.k ?_
  refine TC.k ?_
  refine TC.region_still kfollows_mixedOrders_true (by kernel_rfl) ?_
  refine TS.s rfl rfl rfl (StepS.move rfl) ?_
  refine TS.s rfl rfl rfl (StepS.nilc rfl) ?_
  refine TS.s rfl rfl rfl (StepS.fld rfl kfieldB_203_4_4_true) ?_
  refine TS.s rfl rfl rfl (StepS.ldB rfl (Ent.at 1 rfl) kscalB_201_true rfl) ?_
  refine TS.s rfl rfl rfl (StepS.ldBA rfl (Ent.at 0 rfl) kaggB_114_2_true rfl rfl) ?_
  refine TS.s rfl rfl rfl (StepS.lookMS (k := (a1, a2)) kmapGB_201_114_115_true (KeyOk.pair kunderlying_114_some_array_2_3 kunderlying_3_some_int_i64 ksizeB_3_1_true kscalB_3_true) kinfo_115_bind_zero_some_slice_none_0_0 rfl (Ent.at 4 rfl) rfl) ?_
  refine TS.s rfl rfl rfl (StepS.lenm rfl (MS.row (k := (a1, a2)) (Ent.at 4 rfl)) ksliceB_115_4_1_true rfl) ?_
  refine TS.s rfl rfl rfl (StepS.cmp rfl rfl rfl) ?_
  refine TS.code ?_
  refine TC.cond rfl (fun hc8 => ?_) (fun hc8 => ?_)
  · replace hm := cond_t hc8 hm
    refine TC.k ?_
    refine TC.region ?_
    refine TO.s rfl rfl rfl (StepS.assign rfl) ?_
    refine TO.code ?_
    cases hm
    refine TC.ret fun a w e s => ?_
    refine FRet.mk1 (P := Try.prog) (fn := Try.f125) (t := 6) e rfl rfl ?_
    refine ⟨_, _, rfl, ⟨(h0_3), h0_4, h0_5, rfl, rfl⟩, ?_⟩
    refine s.mono fun _ s => ?_
    replace s := Sat.front 4 rfl s
    replace s := Sat.front 4 rfl s
    replace s := Sat.front 4 rfl s
    replace s := Sat.front 4 rfl s
    replace s := Sat.erase 4 s
    exact s
  · replace hm := cond_f hc8 hm
    refine TC.skipk ?_
    refine TC.k ?_
    refine TC.region_still kfollows_mixedOrders_true (by kernel_rfl) ?_
    refine TS.s rfl rfl rfl (StepS.move rfl) ?_
    refine TS.s rfl rfl rfl (StepS.nilc rfl) ?_
    refine TS.s rfl rfl rfl (StepS.fld rfl kfieldB_203_4_4_true) ?_
    refine TS.s rfl rfl rfl (StepS.ldB rfl (Ent.at 1 rfl) kscalB_201_true rfl) ?_
    refine TS.s rfl rfl rfl (StepS.ldBA rfl (Ent.at 0 rfl) kaggB_114_2_true rfl rfl) ?_
    refine TS.s rfl rfl rfl (StepS.lookMS (k := (a1, a2)) kmapGB_201_114_115_true (KeyOk.pair kunderlying_114_some_array_2_3 kunderlying_3_some_int_i64 ksizeB_3_1_true kscalB_3_true) kinfo_115_bind_zero_some_slice_none_0_0 rfl (Ent.at 4 rfl) rfl) ?_
    obtain ⟨x9, hx10, hm⟩ := bind_some hm
    refine TS.s rfl rfl rfl (StepS.idx rfl rfl (MS.row (k := (a1, a2)) (Ent.at 4 rfl)) ksliceB_115_4_1_true (idx_spec hx10).1 (idxm_lt hx10)) ?_
    refine TS.s rfl rfl rfl (StepS.ld0 rfl (MS.row (k := (a1, a2)) (Ent.at 4 rfl)) kscalB_4_true rfl (idxm hx10) rfl) ?_
    refine TS.s rfl rfl rfl (StepS.assign rfl) ?_
    refine TS.code ?_
    refine TC.k ?_
    refine TC.region_tail 12 kfollows_mixedOrders_true (by kernel_rfl) ?_
    refine TS.s rfl rfl rfl (StepS.move rfl) ?_
    refine TS.s rfl rfl rfl (StepS.nilc rfl) ?_
    refine TS.s rfl rfl rfl (StepS.fld rfl kfieldB_203_4_4_true) ?_
    refine TS.s rfl rfl rfl (StepS.ldB rfl (Ent.at 1 rfl) kscalB_201_true rfl) ?_
    refine TS.s rfl rfl rfl (StepS.ldBA rfl (Ent.at 0 rfl) kaggB_114_2_true rfl rfl) ?_
    refine TS.s rfl rfl rfl (StepS.move rfl) ?_
    refine TS.s rfl rfl rfl (StepS.nilc rfl) ?_
    refine TS.s rfl rfl rfl (StepS.fld rfl kfieldB_203_4_4_true) ?_
    refine TS.s rfl rfl rfl (StepS.ldB rfl (Ent.at 1 rfl) kscalB_201_true rfl) ?_
    refine TS.s rfl rfl rfl (StepS.ldBA rfl (Ent.at 0 rfl) kaggB_114_2_true rfl rfl) ?_
    refine TS.s rfl rfl rfl (StepS.lookMS (k := (a1, a2)) kmapGB_201_114_115_true (KeyOk.pair kunderlying_114_some_array_2_3 kunderlying_3_some_int_i64 ksizeB_3_1_true kscalB_3_true) kinfo_115_bind_zero_some_slice_none_0_0 rfl (Ent.at 4 rfl) rfl) ?_
    obtain ⟨y11, hs12, hm⟩ := bind_some hm
    obtain ⟨hs12a, hs12b, hs12c, _⟩ := slI_spec hs12
    refine TS.s rfl rfl rfl (StepS.slc rfl (MS.row (k := (a1, a2)) (Ent.at 4 rfl)) ksliceB_115_4_1_true rfl (by simp [bnd]) hs12a hs12b (by simpa using hs12c)) ?_
    refine TS.nil ?_
    refine TO.at ?_
    refine TO.ghost (fun _ s => Sat.front 4 rfl s) ?_
    refine TO.ghost (fun _ s => Sat.openMS (a1, a2) s) ?_
    refine TO.ghost (fun _ s => Sat.cutF 0 rfl hs12 s) ?_
    refine TO.ghost (fun _ s => Sat.front 1 rfl s) ?_
    refine TO.msetS (k := (a1, a2)) (ys := y11) kmapGB_201_114_115_true (KeyOk.pair kunderlying_114_some_array_2_3 kunderlying_3_some_int_i64 ksizeB_3_1_true kscalB_3_true) rfl rfl rfl fun hs15 => ?_
    refine TO.code ?_
    refine TC.k ?_
    refine TC.k ?_
    refine TC.region ?_
    refine TO.s rfl rfl rfl (StepS.move rfl) ?_
    refine TO.s rfl rfl rfl (StepS.not rfl) ?_
    refine TO.code ?_
    refine TC.cond rfl (fun hc16 => ?_) (fun hc16 => ?_)
    · replace hm := cond_t hc16 hm
      refine TC.k ?_
      refine TC.region ?_
      refine TO.s rfl rfl rfl (StepS.move rfl) ?_
      refine TO.s rfl rfl rfl (StepS.move rfl) ?_
      refine TO.s rfl rfl rfl (StepS.move rfl) ?_
      refine TO.ghost (fun _ s => Sat.front 4 rfl s) ?_
      refine TO.ghost (fun _ s => Sat.front 4 rfl s) ?_
      refine TO.ghost (fun _ s => Sat.front 4 rfl s) ?_
      obtain ⟨r17, hc18, hm⟩ := bind_some hm
      refine TO.callO kcallB_126_true rfl rfl rfl (fun _ st => C126 (a0 := (a0.1, a0.2.1, a0.2.2.1, a0.2.2.2.1, mupd a0.2.2.2.2 (a1, a2) y11))  hc18 st) ?_
      rintro _ _ ⟨hs20, r22, hd23, rfl, rfl⟩
      refine TO.code ?_
      refine TC.k ?_
      refine TC.region ?_
      refine TO.s rfl rfl rfl (StepS.assign rfl) ?_
      refine TO.code ?_
      cases hm
      refine TC.ret fun a w e s => ?_
      refine FRet.mk1 (P := Try.prog) (fn := Try.f125) (t := 6) e rfl rfl ?_
      refine ⟨_, _, rfl, ⟨(hs20), r22, hd23, rfl, rfl⟩, ?_⟩
      refine s.mono fun _ s => ?_
      replace s := Sat.front 3 rfl s
      replace s := Sat.front 3 rfl s
      replace s := Sat.front 3 rfl s
      replace s := Sat.front 3 rfl s
      replace s := Sat.erase 4 s
      exact s
    · replace hm := cond_f hc16 hm
      refine TC.skipk ?_
      refine TC.k ?_
      refine TC.region ?_
      refine TO.s rfl rfl rfl (StepS.move rfl) ?_
      refine TO.s rfl rfl rfl (StepS.move rfl) ?_
      refine TO.s rfl rfl rfl (StepS.nilc rfl) ?_
      refine TO.s rfl rfl rfl (StepS.fld rfl kfieldB_203_0_0_true) ?_
      refine TO.s rfl rfl rfl (StepS.ldB rfl (Ent.at 2 rfl) kscalB_22_true rfl) ?_
      refine TO.s rfl rfl rfl (StepS.move rfl) ?_
      refine TO.s rfl rfl rfl (StepS.move rfl) ?_
      refine TO.s rfl rfl rfl (StepS.move rfl) ?_
      refine TO.s rfl rfl rfl (StepS.nilc rfl) ?_
      refine TO.s rfl rfl rfl (StepS.fld rfl kfieldB_203_2_2_true) ?_
      refine TO.stB (us := [I a2]) 2 [h0_1, h0_2, I a2, I a0.2.2.2.1, .map (some h0_4)] rfl rfl rfl ksizeB_3_1_true rfl rfl rfl (by simp [Value.oneCell']) rfl ?_
      obtain ⟨x25, hx26, hm⟩ := bind_some hm
      refine TO.s rfl rfl rfl (StepS.idx rfl rfl (OwnS.rd (Ent.at 3 rfl)) ksliceB_22_3_1_true (idx_spec hx26).1 (idxm_lt hx26)) ?_
      refine TO.stO (i := a2.toNat) (off := 0) (us := [I a2]) 3 a2 rfl rfl rfl ksizeB_3_1_true rfl rfl rfl (idx_spec hx26).2 rfl (by simp [Value.oneCell']) rfl ?_
      refine TO.code ?_
      refine TC.k ?_
      refine TC.region ?_
      refine TO.s rfl rfl rfl (StepS.move rfl) ?_
      refine TO.s rfl rfl rfl (StepS.move rfl) ?_
      refine TO.ghost (fun _ s => Sat.front 4 rfl s) ?_
      refine TO.ghost (fun _ s => Sat.front 4 rfl s) ?_
      refine TO.ghost (fun _ s => Sat.front 4 rfl s) ?_
      obtain ⟨r27, hc28, hm⟩ := bind_some hm
      refine TO.callO kcallB_127_true rfl rfl rfl (fun _ st => C127 (a0 := (a0.1.set a2.toNat a2, a0.2.1, a2, a0.2.2.2.1, mupd a0.2.2.2.2 (a1, a2) y11))  hc28 st) ?_
      rintro _ _ ⟨hs30, r32, hd33, rfl, rfl⟩
      refine TO.code ?_
      refine TC.k ?_
      refine TC.region ?_
      refine TO.s rfl rfl rfl (StepS.assign rfl) ?_
      refine TO.code ?_
      cases hm
      refine TC.ret fun a w e s => ?_
      refine FRet.mk1 (P := Try.prog) (fn := Try.f125) (t := 6) e rfl rfl ?_
      refine ⟨_, _, rfl, ⟨(hs30), r32, hd33, rfl, rfl⟩, ?_⟩
      refine s.mono fun _ s => ?_
      replace s := Sat.front 3 rfl s
      replace s := Sat.front 3 rfl s
      replace s := Sat.front 3 rfl s
      replace s := Sat.front 3 rfl s
      replace s := Sat.erase 4 s
      exact s

set_option maxRecDepth 100000 in
theorem C128 {B : World} {L : List HP} {a0 : List Int} {a1 : Int} {h0 : Value} {r0 : Int} (e0 : Ent L (Rd 1 h0 (a0.map cI))) (hm : F128 a0 a1 = some r0) {w : World} (st : St B L w) : Calls Try.prog 128 #[h0, I a1] w (fun e w' => (e = .returned (I r0) ∧ St B (L) w')) := by
  refine calls_of (N := 19) (L := L) (args := [h0, I a1]) Try.func128 rfl rfl rfl ?_ st
  dsimp only [F128] at hm
  refine TC.k ?_
  refine TC.region ?_
  refine TO.s rfl rfl rfl (StepS.assign rfl) ?_
  refine TO.code ?_
  refine TC.k ?_
  refine TC.k ?_
  refine TC.region ?_
  refine TO.s rfl rfl rfl (StepS.move rfl) ?_
  refine TO.s rfl rfl rfl (StepS.lenm rfl e0 ksliceB_22_3_1_true rfl) ?_
  refine TO.s rfl rfl rfl (StepS.move rfl) ?_
  refine TO.code ?_
  obtain ⟨o3, hw4, hm⟩ := bind_some hm
  refine TC.loop hw4 (fun x1 => fun a w => Mid 19 B [(0, h0), (1, I a1), (7, I (a0.length : Int)), (8, I x1)] (L) a w) (fun _ => fun a w => Mid 19 B [] (L) a w) (fun r0 => FRet Try.prog Try.f128 (fun e w' => (e = .returned (I r0) ∧ St B (L) w'))) ?_ ?_ ?_ ?_
  · rintro x1 o3r hb5 a w ⟨he, hs⟩
    dsimp only [F128_L0] at hb5
    refine TC.use ?_ he hs
    refine TC.k ?_
    refine TC.region ?_
    refine TO.s rfl rfl rfl (StepS.cmp rfl rfl rfl) ?_
    refine TO.code ?_
    refine TC.k ?_
    refine TC.cond rfl (fun hc6 => ?_) (fun hc6 => ?_)
    · replace hb5 := cond_t hc6 hb5
      refine TC.skipk ?_
      refine TC.k ?_
      refine TC.block ?_
      refine TC.k ?_
      refine TC.region ?_
      refine TO.s rfl rfl rfl (StepS.move rfl) ?_
      refine TO.s rfl rfl rfl (StepS.assign rfl) ?_
      refine TO.code ?_
      refine TC.k ?_
      refine TC.region ?_
      refine TO.s rfl rfl rfl (StepS.move rfl) ?_
      refine TO.s rfl rfl rfl (StepS.move rfl) ?_
      refine TO.s rfl rfl rfl (StepS.move rfl) ?_
      obtain ⟨x7, hx8, hb5⟩ := bind_some hb5
      refine TO.s rfl rfl rfl (StepS.idx rfl rfl e0 ksliceB_22_3_1_true (idx_spec hx8).1 (idxm_lt hx8)) ?_
      refine TO.s rfl rfl rfl (StepS.ld0 rfl e0 kscalB_3_true rfl (idxm hx8) rfl) ?_
      refine TO.s rfl rfl rfl (StepS.cmp rfl rfl rfl) ?_
      refine TO.code ?_
      refine TC.cond rfl (fun hc9 => ?_) (fun hc9 => ?_)
      · replace hb5 := cond_t hc9 hb5
        refine TC.k ?_
        refine TC.region ?_
        refine TO.s rfl rfl rfl (StepS.move rfl) ?_
        refine TO.s rfl rfl rfl (StepS.assign rfl) ?_
        refine TO.code ?_
        cases hb5
        refine TC.ret fun a w e s => ?_
        refine FRet.mk1 (P := Try.prog) (fn := Try.f128) (t := 4) e rfl rfl ?_
        exact ⟨rfl, s.mono fun _ => Sat.dropN 0⟩
      · replace hb5 := cond_f hc9 hb5
        refine TC.skipk ?_
        refine TC.region ?_
        refine TO.s rfl rfl rfl (StepS.ari rfl rfl rfl) ?_
        refine TO.s rfl rfl rfl (StepS.move rfl) ?_
        cases hb5
        refine TO.nil fun a w e s => ?_
        exact ⟨e.sub (lk_of_allIn ⟨rfl, rfl, rfl, rfl, trivial⟩), s⟩
    · replace hb5 := cond_f hc6 hb5
      cases hb5
      refine TC.exit rfl fun a w e s => ?_
      exact ⟨e.sub (lk_of_allIn trivial), s⟩
  · exact fun a w e s => ⟨e.sub (lk_of_allIn ⟨rfl, rfl, rfl, rfl, trivial⟩), s⟩
  · rintro _ rfl a w ⟨he, hs⟩
    dsimp only [Ctl.on] at hm
    refine TC.use ?_ he hs
    refine TC.k ?_
    refine TC.region ?_
    refine TO.s rfl rfl rfl (StepS.assign rfl) ?_
    refine TO.code ?_
    cases hm
    refine TC.ret fun a w e s => ?_
    refine FRet.mk1 (P := Try.prog) (fn := Try.f128) (t := 4) e rfl rfl ?_
    exact ⟨rfl, s.mono fun _ => Sat.dropN 0⟩
  · rintro r rfl
    cases hm
    exact fun a w h => h

set_option maxRecDepth 100000 in
theorem C84 {B : World} {L : List HP} {a0 : List Int} {a1 : Int} {h0 : Value} {r0 : Bool} (e0 : Ent L (Rd 1 h0 (a0.map cI))) (hm : F84 a0 a1 = some r0) {w : World} (st : St B L w) : Calls Try.prog 84 #[h0, I a1] w (fun e w' => (e = .returned (.bool r0) ∧ St B (L) w')) := by
  refine calls_of (N := 9) (L := L) (args := [h0, I a1]) Try.func84 rfl rfl rfl ?_ st
  dsimp only [F84] at hm
  refine TC.k ?_
  refine TC.region ?_
  refine TO.s rfl rfl rfl (StepS.assign rfl) ?_
  refine TO.code ?_
  refine TC.k ?_
  refine TC.region ?_
  refine TO.s rfl rfl rfl (StepS.move rfl) ?_
  refine TO.s rfl rfl rfl (StepS.move rfl) ?_
  obtain ⟨r1, hc2, hm⟩ := bind_some hm
  refine TO.q rfl rfl rfl (StepQ.call kcallB_128_true rfl rfl (fun _ st => C128 e0 hc2 st)) ?_
  refine TO.s rfl rfl rfl (StepS.cmp rfl rfl rfl) ?_
  refine TO.s rfl rfl rfl (StepS.assign rfl) ?_
  refine TO.code ?_
  cases hm
  refine TC.ret fun a w e s => ?_
  refine FRet.mk1 (P := Try.prog) (fn := Try.f84) (t := 4) e rfl rfl ?_
  exact ⟨rfl, s.mono fun _ => Sat.dropN 0⟩

set_option maxRecDepth 100000 in
theorem C83 {B : World} {L : List HP} {a0 : (List Int) × (List (List Int)) × Int × Int × ((Int × Int) → Option (List Bool))} {a1 : Int × Int × Int × Int} {b0_ : Nat} {h0_1 : Value} {h0_2 : Value} {h0_3 : List Value} {h0_4 : Nat} {h0_5 : (Int × Int) → Value} {r0 : Int} {s0 : (List Int) × (List (List Int)) × Int × Int × ((Int × Int) → Option (List Bool))} (hm : F83 a0 a1 = some (r0, s0)) {w : World} (st : St B (Bx b0_ 203 [h0_1, h0_2, I a0.2.2.1, I a0.2.2.2.1, .map (some h0_4)] :: OwnS 3 1 h0_1 (a0.1.map cI) :: SS 22 3 1 cI h0_2 h0_3 (a0.2.1) :: MS (fun k : Int × Int => .agg #[I k.1, I k.2]) 4 1 cB h0_4 h0_5 (a0.2.2.2.2) :: L) w) : Calls Try.prog 83 #[.pointer (some ⟨b0_, 0, none⟩), .agg (cTiiii a1).toArray] w (fun e w' => ∃ v M, e = .returned v ∧ (∃ (qhs1 : List Value) (qr2 : Nat) (qhd3 : (Int × Int) → Value), v = I r0 ∧ M = (Bx b0_ 203 [h0_1, h0_2, I s0.2.2.1, I s0.2.2.2.1, .map (some qr2)] :: OwnS 3 1 h0_1 (s0.1.map cI) :: SS 22 3 1 cI h0_2 qhs1 (s0.2.1) :: MS (fun k : Int × Int => .agg #[I k.1, I k.2]) 4 1 cB qr2 qhd3 (s0.2.2.2.2) :: L)) ∧ St B M w') := by
  refine calls_of (N := 94) (L := (Bx b0_ 203 [h0_1, h0_2, I a0.2.2.1, I a0.2.2.2.1, .map (some h0_4)] :: OwnS 3 1 h0_1 (a0.1.map cI) :: SS 22 3 1 cI h0_2 h0_3 (a0.2.1) :: MS (fun k : Int × Int => .agg #[I k.1, I k.2]) 4 1 cB h0_4 h0_5 (a0.2.2.2.2) :: L)) (args := [.pointer (some ⟨b0_, 0, none⟩), .agg (cTiiii a1).toArray]) Try.func83 rfl rfl rfl ?_ st
  dsimp only [F83] at hm
  refine TC.k ?_
  refine TC.region ?_
  refine TO.box (cs := [.pointer (some ⟨b0_, 0, none⟩)]) rfl rfl rfl fun b7 => ?_
  refine TO.box (cs := [I a1.1, I a1.2.1, I a1.2.2.1, I a1.2.2.2]) rfl rfl rfl fun b8 => ?_
  refine TO.s rfl rfl rfl (StepS.assign rfl) ?_
  refine TO.code ?_
  refine TC.k ?_
  refine TC.region ?_
  refine TO.s rfl rfl rfl (StepS.mkfn rfl) ?_
  refine TO.s rfl rfl rfl (StepS.assign rfl) ?_
  refine TO.code ?_
  refine TC.k ?_
  refine TC.block ?_
  refine TC.k ?_
  refine TC.region ?_
  refine TO.s rfl rfl rfl (StepS.fld rfl kfieldB_106_0_0_true) ?_
  refine TO.s rfl rfl rfl (StepS.ldB rfl (Ent.at 0 rfl) kscalB_3_true rfl) ?_
  refine TO.s rfl rfl rfl (StepS.cmp rfl rfl rfl) ?_
  refine TO.s rfl rfl rfl (StepS.move rfl) ?_
  refine TO.mid1 4 15 (.bool ((decide (a1.1 < 1)) || (decide (a1.1 > 3)))) ?_ ?_
  · refine bcase ((decide (a1.1 < 1))) (fun hb9 => ?_) (fun hb9 => ?_)
    · refine TO.skip rfl rfl rfl (skipT hb9) rfl rfl ?_
      refine TO.skip rfl rfl rfl (skipT hb9) rfl rfl ?_
      refine TO.skip rfl rfl rfl (skipT hb9) rfl rfl ?_
      refine TO.s rfl rfl rfl (StepS.pickT rfl hb9 rfl) ?_
      exact TO.up1 4 0 rfl rfl (by rw [hb9]; rfl) rfl
    · refine TO.sw rfl rfl rfl hb9 rfl rfl (StepS.fld rfl kfieldB_106_0_0_true) ?_
      refine TO.sw rfl rfl rfl hb9 rfl rfl (StepS.ldB rfl (Ent.at 0 rfl) kscalB_3_true rfl) ?_
      refine TO.sw rfl rfl rfl hb9 rfl rfl (StepS.cmp rfl rfl rfl) ?_
      refine TO.s rfl rfl rfl (StepS.pickF rfl hb9 rfl) ?_
      exact TO.up1 4 0 rfl rfl (by rw [hb9]; rfl) rfl
  refine TO.s rfl rfl rfl (StepS.assign rfl) ?_
  refine TO.code ?_
  refine TC.cond rfl (fun hc10 => ?_) (fun hc10 => ?_)
  · replace hm := cond_t hc10 hm
    refine TC.k ?_
    refine TC.region ?_
    refine TO.s rfl rfl rfl (StepS.assign rfl) ?_
    refine TO.code ?_
    cases hm
    refine TC.ret fun a w e s => ?_
    refine FRet.mk1 (P := Try.prog) (fn := Try.f83) (t := 4) e rfl rfl ?_
    refine ⟨_, _, rfl, ⟨(h0_3), h0_4, h0_5, rfl, rfl⟩, ?_⟩
    refine s.mono fun _ s => ?_
    replace s := Sat.front 5 rfl s
    replace s := Sat.front 5 rfl s
    replace s := Sat.front 5 rfl s
    replace s := Sat.front 5 rfl s
    replace s := Sat.erase 4 s
    replace s := Sat.erase 4 s
    exact s
  · replace hm := cond_f hc10 hm
    refine TC.k ?_
    refine TC.region ?_
    refine TO.s rfl rfl rfl (StepS.move rfl) ?_
    refine TO.s rfl rfl rfl (StepS.fld rfl kfieldB_106_1_1_true) ?_
    refine TO.s rfl rfl rfl (StepS.ldB rfl (Ent.at 0 rfl) kscalB_3_true rfl) ?_
    obtain ⟨r11, hc12, hm⟩ := bind_some hm
    refine TO.q rfl rfl rfl (StepQ.callC kcallB_124_true rfl rfl rfl (fun _ st => C124 (Ent.at 1 rfl) (Ent.at 2 rfl) (RR.hd (SS.rr (Ent.at 4 rfl))) hc12 st)) ?_
    refine TO.s rfl rfl rfl (StepS.move rfl) ?_
    obtain ⟨b14, hj15, hm⟩ := bind_some hm
    refine TO.mid1 17 38 (.bool b14) ?_ ?_
    · refine bcase (r11) (fun hb13 => ?_) (fun hb13 => ?_)
      · replace hj15 := cond_t hb13 hj15
        cases hj15
        refine TO.skip rfl rfl rfl (skipT hb13) rfl rfl ?_
        refine TO.skip rfl rfl rfl (skipT hb13) rfl rfl ?_
        refine TO.skip rfl rfl rfl (skipT hb13) rfl rfl ?_
        refine TO.skip rfl rfl rfl (skipT hb13) rfl rfl ?_
        refine TO.skip rfl rfl rfl skipU rfl rfl ?_
        refine TO.skip rfl rfl rfl skipU rfl rfl ?_
        refine TO.skip rfl rfl rfl skipU rfl rfl ?_
        refine TO.skip rfl rfl rfl skipU rfl rfl ?_
        refine TO.skip rfl rfl rfl skipU rfl rfl ?_
        refine TO.skip rfl rfl rfl skipU rfl rfl ?_
        refine TO.skip rfl rfl rfl skipU rfl rfl ?_
        refine TO.skip rfl rfl rfl skipU rfl rfl ?_
        refine TO.skip rfl rfl rfl skipU rfl rfl ?_
        refine TO.skip rfl rfl rfl skipU rfl rfl ?_
        refine TO.skip rfl rfl rfl skipU rfl rfl ?_
        refine TO.skip rfl rfl rfl (skipT hb13) rfl rfl ?_
        refine TO.s rfl rfl rfl (StepS.pickT rfl hb13 rfl) ?_
        exact TO.up1 17 0 rfl rfl rfl rfl
      · replace hj15 := cond_f hb13 hj15
        refine TO.sw rfl rfl rfl hb13 rfl rfl (StepS.fld rfl kfieldB_106_0_0_true) ?_
        refine TO.sw rfl rfl rfl hb13 rfl rfl (StepS.ldB rfl (Ent.at 0 rfl) kscalB_3_true rfl) ?_
        refine TO.sw rfl rfl rfl hb13 rfl rfl (StepS.cmp rfl rfl rfl) ?_
        refine TO.sw rfl rfl rfl hb13 rfl rfl (StepS.move rfl) ?_
        obtain ⟨b17, hj18, hj15⟩ := bind_some hj15
        refine TO.mid1 12 37 (.bool b17) ?_ ?_
        · refine bcase ((a1.1 == 2)) (fun hb16 => ?_) (fun hb16 => ?_)
          · replace hj18 := cond_t hb16 hj18
            refine TO.sw rfl rfl rfl hb16 rfl rfl (StepS.move rfl) ?_
            refine TO.sw rfl rfl rfl hb16 rfl rfl (StepS.fld rfl kfieldB_106_2_2_true) ?_
            refine TO.sw rfl rfl rfl hb16 rfl rfl (StepS.ldB rfl (Ent.at 0 rfl) kscalB_3_true rfl) ?_
            obtain ⟨r19, hc20, hj18⟩ := bind_some hj18
            refine TO.qw rfl rfl rfl hb16 rfl rfl (StepQ.callC kcallB_124_true rfl rfl rfl (fun _ st => C124 (Ent.at 1 rfl) (Ent.at 2 rfl) (RR.hd (SS.rr (Ent.at 4 rfl))) hc20 st)) ?_
            refine TO.sw rfl rfl rfl hb16 rfl rfl (StepS.move rfl) ?_
            refine TO.mid1 6 36 (.bool (r19 || (a1.2.1 == a1.2.2.1))) ?_ ?_
            · refine bcase (r19) (fun hb21 => ?_) (fun hb21 => ?_)
              · refine TO.skip rfl rfl rfl (skipT hb21) rfl rfl ?_
                refine TO.skip rfl rfl rfl (skipT hb21) rfl rfl ?_
                refine TO.skip rfl rfl rfl (skipT hb21) rfl rfl ?_
                refine TO.skip rfl rfl rfl (skipT hb21) rfl rfl ?_
                refine TO.skip rfl rfl rfl (skipT hb21) rfl rfl ?_
                refine TO.sw rfl rfl rfl hb16 rfl rfl (StepS.pickT rfl hb21 rfl) ?_
                exact TO.up1 6 0 rfl rfl (by rw [hb21]; rfl) rfl
              · refine TO.sw rfl rfl rfl hb21 rfl rfl (StepS.fld rfl kfieldB_106_1_1_true) ?_
                refine TO.sw rfl rfl rfl hb21 rfl rfl (StepS.ldB rfl (Ent.at 0 rfl) kscalB_3_true rfl) ?_
                refine TO.sw rfl rfl rfl hb21 rfl rfl (StepS.fld rfl kfieldB_106_2_2_true) ?_
                refine TO.sw rfl rfl rfl hb21 rfl rfl (StepS.ldB rfl (Ent.at 0 rfl) kscalB_3_true rfl) ?_
                refine TO.sw rfl rfl rfl hb21 rfl rfl (StepS.cmp rfl rfl rfl) ?_
                refine TO.sw rfl rfl rfl hb16 rfl rfl (StepS.pickF rfl hb21 rfl) ?_
                exact TO.up1 6 0 rfl rfl (by rw [hb21]; rfl) rfl
            cases hj18
            refine TO.sw rfl rfl rfl hb13 rfl rfl (StepS.pickT rfl hb16 rfl) ?_
            exact TO.up1 7 0 rfl rfl rfl rfl
          · replace hj18 := cond_f hb16 hj18
            cases hj18
            refine TO.skip rfl rfl rfl (skipF hb16) rfl rfl ?_
            refine TO.skip rfl rfl rfl (skipF hb16) rfl rfl ?_
            refine TO.skip rfl rfl rfl (skipF hb16) rfl rfl ?_
            refine TO.skip rfl rfl rfl (skipF hb16) rfl rfl ?_
            refine TO.skip rfl rfl rfl (skipF hb16) rfl rfl ?_
            refine TO.skip rfl rfl rfl skipU rfl rfl ?_
            refine TO.skip rfl rfl rfl skipU rfl rfl ?_
            refine TO.skip rfl rfl rfl skipU rfl rfl ?_
            refine TO.skip rfl rfl rfl skipU rfl rfl ?_
            refine TO.skip rfl rfl rfl skipU rfl rfl ?_
            refine TO.skip rfl rfl rfl (skipF hb16) rfl rfl ?_
            refine TO.sw rfl rfl rfl hb13 rfl rfl (StepS.pickF rfl hb16 rfl) ?_
            exact TO.up1 12 0 rfl rfl rfl rfl
        cases hj15
        refine TO.s rfl rfl rfl (StepS.pickF rfl hb13 rfl) ?_
        exact TO.up1 6 0 rfl rfl rfl rfl
    refine TO.s rfl rfl rfl (StepS.assign rfl) ?_
    refine TO.code ?_
    refine TC.cond rfl (fun hc22 => ?_) (fun hc22 => ?_)
    · replace hm := cond_t hc22 hm
      refine TC.k ?_
      refine TC.region ?_
      refine TO.s rfl rfl rfl (StepS.assign rfl) ?_
      refine TO.code ?_
      cases hm
      refine TC.ret fun a w e s => ?_
      refine FRet.mk1 (P := Try.prog) (fn := Try.f83) (t := 4) e rfl rfl ?_
      refine ⟨_, _, rfl, ⟨(h0_3), h0_4, h0_5, rfl, rfl⟩, ?_⟩
      refine s.mono fun _ s => ?_
      replace s := Sat.front 5 rfl s
      replace s := Sat.front 5 rfl s
      replace s := Sat.front 5 rfl s
      replace s := Sat.front 5 rfl s
      replace s := Sat.erase 4 s
      replace s := Sat.erase 4 s
      exact s
    · replace hm := cond_f hc22 hm
      refine TC.k ?_
      refine TC.region ?_
      refine TO.s rfl rfl rfl (StepS.fld rfl kfieldB_106_0_0_true) ?_
      refine TO.s rfl rfl rfl (StepS.ldB rfl (Ent.at 0 rfl) kscalB_3_true rfl) ?_
      refine TO.s rfl rfl rfl (StepS.cmp rfl rfl rfl) ?_
      refine TO.s rfl rfl rfl (StepS.assign rfl) ?_
      refine TO.code ?_
      refine TC.cond rfl (fun hc23 => ?_) (fun hc23 => ?_)
      · replace hm := cond_t hc23 hm
        refine TC.k ?_
        refine TC.region ?_
        refine TO.s rfl rfl rfl (StepS.ldB rfl (Ent.at 1 rfl) kscalB_200_true rfl) ?_
        refine TO.s rfl rfl rfl (StepS.fld rfl kfieldB_106_1_1_true) ?_
        refine TO.s rfl rfl rfl (StepS.ldB rfl (Ent.at 0 rfl) kscalB_3_true rfl) ?_
        refine TO.s rfl rfl rfl (StepS.fld rfl kfieldB_106_2_2_true) ?_
        refine TO.s rfl rfl rfl (StepS.ldB rfl (Ent.at 0 rfl) kscalB_3_true rfl) ?_
        refine TO.ghost (fun _ s => Sat.front 5 rfl s) ?_
        refine TO.ghost (fun _ s => Sat.front 5 rfl s) ?_
        refine TO.ghost (fun _ s => Sat.front 5 rfl s) ?_
        refine TO.ghost (fun _ s => Sat.front 5 rfl s) ?_
        obtain ⟨⟨r24, r25⟩, hc26, hm⟩ := bind_some hm
        refine TO.callO kcallB_125_true rfl rfl rfl (fun _ st => C125 (a0 := (a0.1, a0.2.1, a0.2.2.1, a0.2.2.2.1, a0.2.2.2.2))  hc26 st) ?_
        rintro _ _ ⟨hs28, r30, hd31, rfl, rfl⟩
        refine TO.s rfl rfl rfl (StepS.assign rfl) ?_
        refine TO.code ?_
        cases hm
        refine TC.ret fun a w e s => ?_
        refine FRet.mk1 (P := Try.prog) (fn := Try.f83) (t := 4) e rfl rfl ?_
        refine ⟨_, _, rfl, ⟨(hs28), r30, hd31, rfl, rfl⟩, ?_⟩
        refine s.mono fun _ s => ?_
        replace s := Sat.front 3 rfl s
        replace s := Sat.front 3 rfl s
        replace s := Sat.front 3 rfl s
        replace s := Sat.front 3 rfl s
        replace s := Sat.erase 4 s
        replace s := Sat.erase 4 s
        exact s
      · replace hm := cond_f hc23 hm
        refine TC.k ?_
        refine TC.region ?_
        refine TO.s rfl rfl rfl (StepS.fld rfl kfieldB_106_0_0_true) ?_
        refine TO.s rfl rfl rfl (StepS.ldB rfl (Ent.at 0 rfl) kscalB_3_true rfl) ?_
        refine TO.s rfl rfl rfl (StepS.cmp rfl rfl rfl) ?_
        refine TO.s rfl rfl rfl (StepS.assign rfl) ?_
        refine TO.code ?_
        refine TC.cond rfl (fun hc33 => ?_) (fun hc33 => ?_)
        · replace hm := cond_t hc33 hm
          refine TC.k ?_
          refine TC.k ?_
          refine TC.region_quiet kfollows_mixedOrders_true (by kernel_rfl) ?_
          refine TQ.s rfl rfl rfl (StepS.ldB rfl (Ent.at 1 rfl) kscalB_200_true rfl).q ?_
          refine TQ.s rfl rfl rfl (StepS.nilc rfl).q ?_
          refine TQ.s rfl rfl rfl (StepS.fld rfl kfieldB_203_3_3_true).q ?_
          refine TQ.s rfl rfl rfl (StepS.ldB rfl (Ent.at 2 rfl) kscalB_3_true rfl).q ?_
          refine TQ.s rfl rfl rfl (StepS.fld rfl kfieldB_106_1_1_true).q ?_
          refine TQ.s rfl rfl rfl (StepS.ldB rfl (Ent.at 0 rfl) kscalB_3_true rfl).q ?_
          refine TQ.s rfl rfl rfl (StepS.cmp rfl rfl rfl).q ?_
          refine TQ.s rfl rfl rfl (StepS.move rfl).q ?_
          obtain ⟨b35, hj36, hm⟩ := bind_some hm
          refine TQ.mid1 12 72 (.bool b35) ?_ ?_
          · refine bcase ((a0.2.2.2.1 == a1.2.1)) (fun hb34 => ?_) (fun hb34 => ?_)
            · replace hj36 := cond_t hb34 hj36
              cases hj36
              refine TQ.skip rfl rfl rfl (skipT hb34) rfl rfl ?_
              refine TQ.skip rfl rfl rfl (skipT hb34) rfl rfl ?_
              refine TQ.skip rfl rfl rfl (skipT hb34) rfl rfl ?_
              refine TQ.skip rfl rfl rfl (skipT hb34) rfl rfl ?_
              refine TQ.skip rfl rfl rfl (skipT hb34) rfl rfl ?_
              refine TQ.skip rfl rfl rfl (skipT hb34) rfl rfl ?_
              refine TQ.skip rfl rfl rfl (skipT hb34) rfl rfl ?_
              refine TQ.skip rfl rfl rfl (skipT hb34) rfl rfl ?_
              refine TQ.skip rfl rfl rfl (skipT hb34) rfl rfl ?_
              refine TQ.skip rfl rfl rfl (skipT hb34) rfl rfl ?_
              refine TQ.skip rfl rfl rfl (skipT hb34) rfl rfl ?_
              refine TQ.s rfl rfl rfl (StepS.pickT rfl hb34 rfl).q ?_
              exact TQ.up1 12 0 rfl rfl rfl rfl
            · replace hj36 := cond_f hb34 hj36
              refine TQ.sw rfl rfl rfl hb34 rfl rfl (StepS.ldB rfl (Ent.at 1 rfl) kscalB_200_true rfl).q ?_
              refine TQ.sw rfl rfl rfl hb34 rfl rfl (StepS.nilc rfl).q ?_
              refine TQ.sw rfl rfl rfl hb34 rfl rfl (StepS.fld rfl kfieldB_203_1_1_true).q ?_
              refine TQ.sw rfl rfl rfl hb34 rfl rfl (StepS.ldB rfl (Ent.at 2 rfl) kscalB_50_true rfl).q ?_
              refine TQ.sw rfl rfl rfl hb34 rfl rfl (StepS.fld rfl kfieldB_106_1_1_true).q ?_
              refine TQ.sw rfl rfl rfl hb34 rfl rfl (StepS.ldB rfl (Ent.at 0 rfl) kscalB_3_true rfl).q ?_
              obtain ⟨x37, hx38, hj36⟩ := bind_some hj36
              refine TQ.sw rfl rfl rfl hb34 rfl rfl (StepS.idxRR rfl rfl (SS.rr (Ent.at 4 rfl)) ksliceB_50_22_1_true hx38).q ?_
              refine TQ.sw rfl rfl rfl hb34 rfl rfl (StepS.ldRR rfl (SS.rr (Ent.at 4 rfl)) kscalB_22_true hx38).q ?_
              refine TQ.sw rfl rfl rfl hb34 rfl rfl (StepS.fld rfl kfieldB_106_1_1_true).q ?_
              refine TQ.sw rfl rfl rfl hb34 rfl rfl (StepS.ldB rfl (Ent.at 0 rfl) kscalB_3_true rfl).q ?_
              obtain ⟨r40, hc41, hj36⟩ := bind_some hj36
              refine TQ.sw rfl rfl rfl hb34 rfl rfl (StepQ.call kcallB_84_true rfl rfl (fun _ st => C84 (RR.row (SS.rr (Ent.at 4 rfl)) hx38) hc41 st)) ?_
              cases hj36
              refine TQ.s rfl rfl rfl (StepS.pickF rfl hb34 rfl).q ?_
              exact TQ.up1 12 0 rfl rfl rfl rfl
          refine TQ.code ?_
          refine TC.cond rfl (fun hc42 => ?_) (fun hc42 => ?_)
          · replace hm := cond_t hc42 hm
            refine TC.k ?_
            refine TC.region ?_
            refine TO.s rfl rfl rfl (StepS.assign rfl) ?_
            refine TO.code ?_
            cases hm
            refine TC.ret fun a w e s => ?_
            refine FRet.mk1 (P := Try.prog) (fn := Try.f83) (t := 4) e rfl rfl ?_
            refine ⟨_, _, rfl, ⟨(h0_3), h0_4, h0_5, rfl, rfl⟩, ?_⟩
            refine s.mono fun _ s => ?_
            replace s := Sat.front 5 rfl s
            replace s := Sat.front 5 rfl s
            replace s := Sat.front 5 rfl s
            replace s := Sat.front 5 rfl s
            replace s := Sat.erase 4 s
            replace s := Sat.erase 4 s
            exact s
          · replace hm := cond_f hc42 hm
            refine TC.skipk ?_
            refine TC.k ?_
            refine TC.region ?_
            refine TO.s rfl rfl rfl (StepS.ldB rfl (Ent.at 1 rfl) kscalB_200_true rfl) ?_
            refine TO.s rfl rfl rfl (StepS.fld rfl kfieldB_106_1_1_true) ?_
            refine TO.s rfl rfl rfl (StepS.ldB rfl (Ent.at 0 rfl) kscalB_3_true rfl) ?_
            refine TO.s rfl rfl rfl (StepS.fld rfl kfieldB_106_1_1_true) ?_
            refine TO.s rfl rfl rfl (StepS.ldB rfl (Ent.at 0 rfl) kscalB_3_true rfl) ?_
            refine TO.ghost (fun _ s => Sat.front 5 rfl s) ?_
            refine TO.ghost (fun _ s => Sat.front 5 rfl s) ?_
            refine TO.ghost (fun _ s => Sat.front 5 rfl s) ?_
            refine TO.ghost (fun _ s => Sat.front 5 rfl s) ?_
            obtain ⟨r43, hc44, hm⟩ := bind_some hm
            refine TO.callO kcallB_126_true rfl rfl rfl (fun _ st => C126 (a0 := (a0.1, a0.2.1, a0.2.2.1, a0.2.2.2.1, a0.2.2.2.2))  hc44 st) ?_
            rintro _ _ ⟨hs46, r48, hd49, rfl, rfl⟩
            refine TO.code ?_
            refine TC.k ?_
            refine TC.region ?_
            refine TO.s rfl rfl rfl (StepS.assign rfl) ?_
            refine TO.code ?_
            cases hm
            refine TC.ret fun a w e s => ?_
            refine FRet.mk1 (P := Try.prog) (fn := Try.f83) (t := 4) e rfl rfl ?_
            refine ⟨_, _, rfl, ⟨(hs46), r48, hd49, rfl, rfl⟩, ?_⟩
            refine s.mono fun _ s => ?_
            replace s := Sat.front 3 rfl s
            replace s := Sat.front 3 rfl s
            replace s := Sat.front 3 rfl s
            replace s := Sat.front 3 rfl s
            replace s := Sat.erase 4 s
            replace s := Sat.erase 4 s
            exact s
        · replace hm := cond_f hc33 hm
          refine TC.k ?_
          refine TC.region_still kfollows_mixedOrders_true (by kernel_rfl) ?_
          refine TS.s rfl rfl rfl (StepS.ldB rfl (Ent.at 1 rfl) kscalB_200_true rfl) ?_
          refine TS.s rfl rfl rfl (StepS.nilc rfl) ?_
          refine TS.s rfl rfl rfl (StepS.fld rfl kfieldB_203_3_3_true) ?_
          refine TS.s rfl rfl rfl (StepS.ldB rfl (Ent.at 2 rfl) kscalB_3_true rfl) ?_
          refine TS.s rfl rfl rfl (StepS.fld rfl kfieldB_106_1_1_true) ?_
          refine TS.s rfl rfl rfl (StepS.ldB rfl (Ent.at 0 rfl) kscalB_3_true rfl) ?_
          refine TS.s rfl rfl rfl (StepS.cmp rfl rfl rfl) ?_
          refine TS.s rfl rfl rfl (StepS.assign rfl) ?_
          refine TS.code ?_
          refine TC.cond rfl (fun hc51 => ?_) (fun hc51 => ?_)
          · replace hm := cond_t hc51 hm
            refine TC.k ?_
            refine TC.region ?_
            refine TO.s rfl rfl rfl (StepS.assign rfl) ?_
            refine TO.code ?_
            cases hm
            refine TC.ret fun a w e s => ?_
            refine FRet.mk1 (P := Try.prog) (fn := Try.f83) (t := 4) e rfl rfl ?_
            refine ⟨_, _, rfl, ⟨(h0_3), h0_4, h0_5, rfl, rfl⟩, ?_⟩
            refine s.mono fun _ s => ?_
            replace s := Sat.front 5 rfl s
            replace s := Sat.front 5 rfl s
            replace s := Sat.front 5 rfl s
            replace s := Sat.front 5 rfl s
            replace s := Sat.erase 4 s
            replace s := Sat.erase 4 s
            exact s
          · replace hm := cond_f hc51 hm
            refine TC.skipk ?_
            refine TC.k ?_
            refine TC.region ?_
            refine TO.s rfl rfl rfl (StepS.ldB rfl (Ent.at 1 rfl) kscalB_200_true rfl) ?_
            refine TO.s rfl rfl rfl (StepS.nilc rfl) ?_
            refine TO.s rfl rfl rfl (StepS.fld rfl kfieldB_203_3_3_true) ?_
            refine TO.stB (us := [I (-1)]) 2 [h0_1, h0_2, I a0.2.2.1, I (-1), .map (some h0_4)] rfl rfl rfl ksizeB_3_1_true rfl rfl rfl (by simp [Value.oneCell']) rfl ?_
            refine TO.code ?_
            refine TC.k ?_
            refine TC.region ?_
            refine TO.s rfl rfl rfl (StepS.ldB rfl (Ent.at 1 rfl) kscalB_200_true rfl) ?_
            refine TO.s rfl rfl rfl (StepS.fld rfl kfieldB_106_1_1_true) ?_
            refine TO.s rfl rfl rfl (StepS.ldB rfl (Ent.at 0 rfl) kscalB_3_true rfl) ?_
            refine TO.ghost (fun _ s => Sat.front 5 rfl s) ?_
            refine TO.ghost (fun _ s => Sat.front 5 rfl s) ?_
            refine TO.ghost (fun _ s => Sat.front 5 rfl s) ?_
            refine TO.ghost (fun _ s => Sat.front 5 rfl s) ?_
            obtain ⟨r52, hc53, hm⟩ := bind_some hm
            refine TO.callO kcallB_127_true rfl rfl rfl (fun _ st => C127 (a0 := (a0.1, a0.2.1, a0.2.2.1, (-1), a0.2.2.2.2))  hc53 st) ?_
            rintro _ _ ⟨hs55, r57, hd58, rfl, rfl⟩
            refine TO.code ?_
            refine TC.k ?_
            refine TC.region ?_
            refine TO.s rfl rfl rfl (StepS.assign rfl) ?_
            refine TO.code ?_
            cases hm
            refine TC.ret fun a w e s => ?_
            refine FRet.mk1 (P := Try.prog) (fn := Try.f83) (t := 4) e rfl rfl ?_
            refine ⟨_, _, rfl, ⟨(hs55), r57, hd58, rfl, rfl⟩, ?_⟩
            refine s.mono fun _ s => ?_
            replace s := Sat.front 3 rfl s
            replace s := Sat.front 3 rfl s
            replace s := Sat.front 3 rfl s
            replace s := Sat.front 3 rfl s
            replace s := Sat.erase 4 s
            replace s := Sat.erase 4 s
            exact s

set_option maxHeartbeats 4000000 in
set_option maxRecDepth 100000 in
theorem C46 {B : World} {L : List HP} {a0 : List Int} {a1 : List (Int × Int × Int × Int)} {h0 : Value} {h1 : Value} {r0 : (List Int) × (BitVec 32) × (BitVec 32) × Int} {r1 : Int} (e0 : Ent L (Rd 1 h0 (a0.map cI))) (e1 : Ent L (Rd 4 h1 (a1.map cTiiii))) (hm : F46 a0 a1 = some (r0, r1)) {w : World} (st : St B L w) : Calls Try.prog 46 #[h0, h1] w (fun e w' => ∃ v M, e = .returned v ∧ (∃ (qv1 : Value), v = .tuple #[.agg #[qv1, U r0.2.1, U r0.2.2.1, I r0.2.2.2], I r1] ∧ M = (OwnS 28 1 qv1 (r0.1.map cI) :: L)) ∧ St B M w') := by
  refine calls_of (N := 111) (L := L) (args := [h0, h1]) Try.func46 rfl rfl rfl ?_ st
  dsimp only [F46] at hm
  refine TC.k ?_
  refine TC.region ?_
  refine TO.alloc kinfo_80_bind_zero_some_agg_slice_none_0_0_U_0_U_0_I_0 rfl rfl fun b2 => ?_
  refine TO.s rfl rfl rfl (StepS.assign rfl) ?_
  refine TO.code ?_
  refine TC.k ?_
  refine TC.k ?_
  refine TC.region ?_
  refine TO.s rfl rfl rfl (StepS.move rfl) ?_
  refine TO.s rfl rfl rfl (StepS.lenm rfl e0.tl ksliceB_22_3_1_true rfl) ?_
  refine TO.s rfl rfl rfl (StepS.cmp rfl rfl rfl) ?_
  refine TO.s rfl rfl rfl (StepS.move rfl) ?_
  refine TO.mid1 4 23 (.bool ((decide ((a0.length : Int) < 1)) || (decide ((a0.length : Int) > 6)))) ?_ ?_
  · refine bcase ((decide ((a0.length : Int) < 1))) (fun hb3 => ?_) (fun hb3 => ?_)
    · refine TO.skip rfl rfl rfl (skipT hb3) rfl rfl ?_
      refine TO.skip rfl rfl rfl (skipT hb3) rfl rfl ?_
      refine TO.skip rfl rfl rfl (skipT hb3) rfl rfl ?_
      refine TO.s rfl rfl rfl (StepS.pickT rfl hb3 rfl) ?_
      exact TO.up1 4 0 rfl rfl (by rw [hb3]; rfl) rfl
    · refine TO.sw rfl rfl rfl hb3 rfl rfl (StepS.move rfl) ?_
      refine TO.sw rfl rfl rfl hb3 rfl rfl (StepS.lenm rfl e0.tl ksliceB_22_3_1_true rfl) ?_
      refine TO.sw rfl rfl rfl hb3 rfl rfl (StepS.cmp rfl rfl rfl) ?_
      refine TO.s rfl rfl rfl (StepS.pickF rfl hb3 rfl) ?_
      exact TO.up1 4 0 rfl rfl (by rw [hb3]; rfl) rfl
  refine TO.s rfl rfl rfl (StepS.move rfl) ?_
  refine TO.mid1 4 28 (.bool (((decide ((a0.length : Int) < 1)) || (decide ((a0.length : Int) > 6))) || (decide ((a1.length : Int) > 60)))) ?_ ?_
  · refine bcase (((decide ((a0.length : Int) < 1)) || (decide ((a0.length : Int) > 6)))) (fun hb4 => ?_) (fun hb4 => ?_)
    · refine TO.skip rfl rfl rfl (skipT hb4) rfl rfl ?_
      refine TO.skip rfl rfl rfl (skipT hb4) rfl rfl ?_
      refine TO.skip rfl rfl rfl (skipT hb4) rfl rfl ?_
      refine TO.s rfl rfl rfl (StepS.pickT rfl hb4 rfl) ?_
      exact TO.up1 4 0 rfl rfl (by rw [hb4]; rfl) rfl
    · refine TO.sw rfl rfl rfl hb4 rfl rfl (StepS.move rfl) ?_
      refine TO.sw rfl rfl rfl hb4 rfl rfl (StepS.lenm rfl e1.tl ksliceB_23_106_4_true rfl) ?_
      refine TO.sw rfl rfl rfl hb4 rfl rfl (StepS.cmp rfl rfl rfl) ?_
      refine TO.s rfl rfl rfl (StepS.pickF rfl hb4 rfl) ?_
      exact TO.up1 4 0 rfl rfl (by rw [hb4]; rfl) rfl
  refine TO.code ?_
  refine TC.cond rfl (fun hc5 => ?_) (fun hc5 => ?_)
  · replace hm := cond_t hc5 hm
    refine TC.k ?_
    refine TC.region ?_
    refine TO.s rfl rfl rfl (StepS.build (cs := [.slice none 0 0, U 0, U 0, I 0]) rfl (by kernel_rfl)) ?_
    refine TO.stB (us := [.slice none 0 0, U 0, U 0, I 0]) 0 [.slice none 0 0, U 0, U 0, I 0] rfl rfl rfl ksizeB_80_4_true rfl rfl rfl (by simp [Value.oneCell']) rfl ?_
    refine TO.s rfl rfl rfl (StepS.assign rfl) ?_
    refine TO.code ?_
    cases hm
    refine TC.ret fun a w e s => ?_
    refine FRet.cell2 (P := Try.prog) (fn := Try.f46) e s rfl rfl rfl (Ent.at 0 rfl) kaggB_80_4_true rfl ?_
    refine ⟨_, _, rfl, ⟨(.slice none 0 0), rfl, rfl⟩, ?_⟩
    refine s.mono fun _ s => ?_
    replace s := Sat.nilS (e := 28) (sz := 1) (f := cI) s
    replace s := Sat.erase 1 s
    exact s
  · replace hm := cond_f hc5 hm
    refine TC.skipk ?_
    refine TC.k ?_
    refine TC.region ?_
    refine TO.s rfl rfl rfl (StepS.move rfl) ?_
    obtain ⟨⟨r6, r7⟩, hc8, hm⟩ := bind_some hm
    refine TO.q rfl rfl rfl (StepQ.call kcallB_81_true rfl rfl (fun _ st => C81 e0.tl hc8 st)) ?_
    refine TO.s rfl rfl rfl (StepS.move rfl) ?_
    refine TO.s rfl rfl rfl (StepS.extract rfl rfl) ?_
    refine TO.s rfl rfl rfl (StepS.extract rfl rfl) ?_
    refine TO.s rfl rfl rfl (StepS.assign rfl) ?_
    refine TO.s rfl rfl rfl (StepS.assign rfl) ?_
    refine TO.code ?_
    refine TC.k ?_
    refine TC.k ?_
    refine TC.region ?_
    refine TO.s rfl rfl rfl (StepS.move rfl) ?_
    refine TO.s rfl rfl rfl (StepS.cmp rfl rfl rfl) ?_
    refine TO.code ?_
    refine TC.cond rfl (fun hc9 => ?_) (fun hc9 => ?_)
    · replace hm := cond_t hc9 hm
      refine TC.k ?_
      refine TC.region ?_
      refine TO.s rfl rfl rfl (StepS.build (cs := [.slice none 0 0, U 0, U 0, I 0]) rfl (by kernel_rfl)) ?_
      refine TO.s rfl rfl rfl (StepS.move rfl) ?_
      refine TO.stB (us := [.slice none 0 0, U 0, U 0, I 0]) 0 [.slice none 0 0, U 0, U 0, I 0] rfl rfl rfl ksizeB_80_4_true rfl rfl rfl (by simp [Value.oneCell']) rfl ?_
      refine TO.s rfl rfl rfl (StepS.assign rfl) ?_
      refine TO.code ?_
      cases hm
      refine TC.ret fun a w e s => ?_
      refine FRet.cell2 (P := Try.prog) (fn := Try.f46) e s rfl rfl rfl (Ent.at 0 rfl) kaggB_80_4_true rfl ?_
      refine ⟨_, _, rfl, ⟨(.slice none 0 0), rfl, rfl⟩, ?_⟩
      refine s.mono fun _ s => ?_
      replace s := Sat.nilS (e := 28) (sz := 1) (f := cI) s
      replace s := Sat.erase 1 s
      exact s
    · replace hm := cond_f hc9 hm
      refine TC.skipk ?_
      refine TC.k ?_
      obtain ⟨⟨y13, y17, y20⟩, hj22, hm⟩ := bind_some hm
      first | refine TC.cutM (fun a w => ∃ v11 : Value, ∃ v14 : Value, ∃ hs15 : List Value, ∃ r19 : Nat, ∃ hs21 : (Int × Int) → Value, ∃ bq10_8_1 : Nat, Mid 111 B [(1, h1), (4, .pointer (some ⟨b2, 0, none⟩)), (8, .pointer (some ⟨bq10_8_1, 0, none⟩))] (OwnS 3 1 v11 (y13.map cI) :: SS 22 3 1 cI v14 hs15 (y17) :: MS (fun k : Int × Int => .agg #[I k.1, I k.2]) 4 1 cB r19 hs21 (y20) :: Bx bq10_8_1 203 [v11, v14, I r6, I (-1), .map (some r19)] :: Bx b2 80 [.slice none 0 0, U 0, U 0, I 0] :: L) a w) ?_ ?_ | refine TC.cutX (fun a w => ∃ v11 : Value, ∃ v14 : Value, ∃ hs15 : List Value, ∃ r19 : Nat, ∃ hs21 : (Int × Int) → Value, ∃ bq10_8_1 : Nat, Mid 111 B [(1, h1), (4, .pointer (some ⟨b2, 0, none⟩)), (8, .pointer (some ⟨bq10_8_1, 0, none⟩))] (OwnS 3 1 v11 (y13.map cI) :: SS 22 3 1 cI v14 hs15 (y17) :: MS (fun k : Int × Int => .agg #[I k.1, I k.2]) 4 1 cB r19 hs21 (y20) :: Bx bq10_8_1 203 [v11, v14, I r6, I (-1), .map (some r19)] :: Bx b2 80 [.slice none 0 0, U 0, U 0, I 0] :: L) a w) ?_ ?_
      · obtain ⟨rq10_1_1, hcq10_1_2, hj22⟩ := bind_some hj22
        obtain ⟨yq10_4_1, hkq10_4_2, hj22⟩ := bind_some hj22
        refine TC.region_any (Bx b2 80 [.slice none 0 0, U 0, U 0, I 0] :: L) 10 10 kfollows_mixedOrders_true rfl ?_
        refine TA.takeW 0 rfl rfl rfl rfl (StepS.move rfl) (by kernel_rfl) (by kernel_rfl) (by kernel_rfl) rfl (.inr (fun _ s => s)) ?_
        refine TA.takeW 2 rfl rfl rfl rfl (StepS.move rfl) (by kernel_rfl) (by kernel_rfl) (by kernel_rfl) rfl (.inr (fun _ s => s)) ?_
        refine TA.take 3 rfl rfl rfl rfl (StepS.lenm rfl e0.tl ksliceB_22_3_1_true rfl) (by kernel_rfl) (by kernel_rfl) (by kernel_rfl) (by kernel_rfl) (by kernel_rfl) (fun _ s => s) ?_
        refine TA.takeW 5 rfl rfl rfl rfl (StepS.move rfl) (by kernel_rfl) (by kernel_rfl) (by kernel_rfl) rfl (.inr (fun _ s => s)) ?_
        refine TA.all3 (i := 1) (j := 4) (k := 6) (by kernel_rfl) ?_ ?_ ?_
        · refine TB.of rfl ?_
          refine TO.callO kcallB_82_true rfl rfl rfl (fun _ st => C82 e0.tl hcq10_1_2 st) ?_
          rintro vq10_1_3 _ ⟨_, rfl, rfl⟩
          refine TA.back (.inr (fun _ s => Sat.by [1] 1 1 (by kernel_rfl) s)) ?_
          refine TA.asL (L' := (OwnS 3 1 vq10_1_3 (rq10_1_1.map cI) :: Bx b2 80 [.slice none 0 0, U 0, U 0, I 0] :: L)) (listed' := #[true, true, true, true, false, true, false, false, false, false]) (by kernel_rfl) (by kernel_rfl) ?_
          refine TA.all2 (i := 4) (j := 6) (by kernel_rfl) ?_ ?_
          · refine TB.of rfl ?_
            refine TO.mkSSg (ee := 3) (sz := 1) (f := cI) kelemB_50_22_1_24_true kinfo_22_bind_zero_some_slice_none_0_0 rfl rfl hkq10_4_2 rfl fun vq10_4_3 hsq10_4_4 => ?_
            refine TA.back (.inr (fun _ s => Sat.by [2] 1 2 (by kernel_rfl) s)) ?_
            refine TA.asL (L' := (SS 22 3 1 cI vq10_4_3 hsq10_4_4 (yq10_4_1) :: OwnS 3 1 vq10_1_3 (rq10_1_1.map cI) :: Bx b2 80 [.slice none 0 0, U 0, U 0, I 0] :: L)) (listed' := #[true, true, true, true, true, true, false, false, false, false]) (by kernel_rfl) (by kernel_rfl) ?_
            refine TA.all1 (i := 6) (by kernel_rfl) ?_
            refine TB.of rfl ?_
            refine TO.mkMS (kf := (fun k : Int × Int => .agg #[I k.1, I k.2])) (e := 4) (sz := 1) (f := cB) rfl fun rq10_6_1 hsq10_6_2 => ?_
            refine TA.back (.inr (fun _ s => Sat.by [3] 1 3 (by kernel_rfl) s)) ?_
            refine TA.asL (L' := (MS (fun k : Int × Int => .agg #[I k.1, I k.2]) 4 1 cB rq10_6_1 hsq10_6_2 ((mzero : (Int × Int) → Option (List Bool))) :: SS 22 3 1 cI vq10_4_3 hsq10_4_4 (yq10_4_1) :: OwnS 3 1 vq10_1_3 (rq10_1_1.map cI) :: Bx b2 80 [.slice none 0 0, U 0, U 0, I 0] :: L)) (listed' := #[true, true, true, true, true, true, true, false, false, false]) (by kernel_rfl) (by kernel_rfl) ?_
            refine TA.all1 (i := 7) (by kernel_rfl) ?_
            refine TB.of rfl ?_
            refine TO.pure (fun _ s => Rd.one (OwnS.rd (Ent.at 2 rfl)) s) fun ocq10_7_1 => ?_
            refine TO.pure (fun _ s => Rd.one (RR.top (SS.rr (Ent.at 1 rfl))) s) fun ocq10_7_2 => ?_
            refine TO.s rfl rfl rfl (StepS.buildS (us := [(0, .agg #[vq10_1_3]), (1, .agg #[vq10_4_3]), (2, I r6), (3, I (-1)), (4, .map (some rq10_6_1))]) (cs := [vq10_1_3, vq10_4_3, I r6, I (-1), .map (some rq10_6_1)]) rfl (by simp only [List.map_cons, List.map_nil, ocq10_7_1.2, ocq10_7_2.2] <;> rfl) (by kernel_rfl)) ?_
            refine TA.back (.inr (fun _ s => Sat.by [3] 1 3 (by kernel_rfl) s)) ?_
            refine TA.asL (L' := (MS (fun k : Int × Int => .agg #[I k.1, I k.2]) 4 1 cB rq10_6_1 hsq10_6_2 ((mzero : (Int × Int) → Option (List Bool))) :: SS 22 3 1 cI vq10_4_3 hsq10_4_4 (yq10_4_1) :: OwnS 3 1 vq10_1_3 (rq10_1_1.map cI) :: Bx b2 80 [.slice none 0 0, U 0, U 0, I 0] :: L)) (listed' := #[true, true, true, true, true, true, true, true, false, false]) (by kernel_rfl) (by kernel_rfl) ?_
            refine TA.all1 (i := 8) (by kernel_rfl) ?_
            refine TB.of rfl ?_
            refine TO.box (cs := [vq10_1_3, vq10_4_3, I r6, I (-1), .map (some rq10_6_1)]) rfl rfl rfl fun bq10_8_1 => ?_
            refine TA.back (.inr (fun _ s => Sat.by [4] 1 4 (by kernel_rfl) s)) ?_
            refine TA.asL (L' := (Bx bq10_8_1 203 [vq10_1_3, vq10_4_3, I r6, I (-1), .map (some rq10_6_1)] :: MS (fun k : Int × Int => .agg #[I k.1, I k.2]) 4 1 cB rq10_6_1 hsq10_6_2 ((mzero : (Int × Int) → Option (List Bool))) :: SS 22 3 1 cI vq10_4_3 hsq10_4_4 (yq10_4_1) :: OwnS 3 1 vq10_1_3 (rq10_1_1.map cI) :: Bx b2 80 [.slice none 0 0, U 0, U 0, I 0] :: L)) (listed' := #[true, true, true, true, true, true, true, true, true, false]) (by kernel_rfl) (by kernel_rfl) ?_
            refine TA.takeW 9 rfl rfl rfl rfl (StepS.assign rfl) (by kernel_rfl) (by kernel_rfl) (by kernel_rfl) rfl (.inr (fun _ s => Sat.by [4] 1 4 (by kernel_rfl) s)) ?_
            cases hj22
            refine TA.nil (by kernel_rfl) fun a w e s => ?_
            exact ⟨vq10_1_3, vq10_4_3, hsq10_4_4, rq10_6_1, hsq10_6_2, bq10_8_1, e.sub (lk_of_allIn ⟨rfl, rfl, rfl, trivial⟩), s.mono fun _ s => (by exact Sat.by [4, 1, 2, 3, 4] 5 0 (by kernel_rfl) s)⟩
          · refine TB.of rfl ?_
            refine TO.mkMS (kf := (fun k : Int × Int => .agg #[I k.1, I k.2])) (e := 4) (sz := 1) (f := cB) rfl fun rq10_6_1 hsq10_6_2 => ?_
            refine TA.back (.inr (fun _ s => Sat.by [2] 1 2 (by kernel_rfl) s)) ?_
            refine TA.asL (L' := (MS (fun k : Int × Int => .agg #[I k.1, I k.2]) 4 1 cB rq10_6_1 hsq10_6_2 ((mzero : (Int × Int) → Option (List Bool))) :: OwnS 3 1 vq10_1_3 (rq10_1_1.map cI) :: Bx b2 80 [.slice none 0 0, U 0, U 0, I 0] :: L)) (listed' := #[true, true, true, true, false, true, true, false, false, false]) (by kernel_rfl) (by kernel_rfl) ?_
            refine TA.all1 (i := 4) (by kernel_rfl) ?_
            refine TB.of rfl ?_
            refine TO.mkSSg (ee := 3) (sz := 1) (f := cI) kelemB_50_22_1_24_true kinfo_22_bind_zero_some_slice_none_0_0 rfl rfl hkq10_4_2 rfl fun vq10_4_3 hsq10_4_4 => ?_
            refine TA.back (.inr (fun _ s => Sat.by [3] 1 3 (by kernel_rfl) s)) ?_
            refine TA.asL (L' := (SS 22 3 1 cI vq10_4_3 hsq10_4_4 (yq10_4_1) :: MS (fun k : Int × Int => .agg #[I k.1, I k.2]) 4 1 cB rq10_6_1 hsq10_6_2 ((mzero : (Int × Int) → Option (List Bool))) :: OwnS 3 1 vq10_1_3 (rq10_1_1.map cI) :: Bx b2 80 [.slice none 0 0, U 0, U 0, I 0] :: L)) (listed' := #[true, true, true, true, true, true, true, false, false, false]) (by kernel_rfl) (by kernel_rfl) ?_
            refine TA.all1 (i := 7) (by kernel_rfl) ?_
            refine TB.of rfl ?_
            refine TO.pure (fun _ s => Rd.one (OwnS.rd (Ent.at 2 rfl)) s) fun ocq10_7_1 => ?_
            refine TO.pure (fun _ s => Rd.one (RR.top (SS.rr (Ent.at 0 rfl))) s) fun ocq10_7_2 => ?_
            refine TO.s rfl rfl rfl (StepS.buildS (us := [(0, .agg #[vq10_1_3]), (1, .agg #[vq10_4_3]), (2, I r6), (3, I (-1)), (4, .map (some rq10_6_1))]) (cs := [vq10_1_3, vq10_4_3, I r6, I (-1), .map (some rq10_6_1)]) rfl (by simp only [List.map_cons, List.map_nil, ocq10_7_1.2, ocq10_7_2.2] <;> rfl) (by kernel_rfl)) ?_
            refine TA.back (.inr (fun _ s => Sat.by [3] 1 3 (by kernel_rfl) s)) ?_
            refine TA.asL (L' := (SS 22 3 1 cI vq10_4_3 hsq10_4_4 (yq10_4_1) :: MS (fun k : Int × Int => .agg #[I k.1, I k.2]) 4 1 cB rq10_6_1 hsq10_6_2 ((mzero : (Int × Int) → Option (List Bool))) :: OwnS 3 1 vq10_1_3 (rq10_1_1.map cI) :: Bx b2 80 [.slice none 0 0, U 0, U 0, I 0] :: L)) (listed' := #[true, true, true, true, true, true, true, true, false, false]) (by kernel_rfl) (by kernel_rfl) ?_
            refine TA.all1 (i := 8) (by kernel_rfl) ?_
            refine TB.of rfl ?_
            refine TO.box (cs := [vq10_1_3, vq10_4_3, I r6, I (-1), .map (some rq10_6_1)]) rfl rfl rfl fun bq10_8_1 => ?_
            refine TA.back (.inr (fun _ s => Sat.by [4] 1 4 (by kernel_rfl) s)) ?_
            refine TA.asL (L' := (Bx bq10_8_1 203 [vq10_1_3, vq10_4_3, I r6, I (-1), .map (some rq10_6_1)] :: SS 22 3 1 cI vq10_4_3 hsq10_4_4 (yq10_4_1) :: MS (fun k : Int × Int => .agg #[I k.1, I k.2]) 4 1 cB rq10_6_1 hsq10_6_2 ((mzero : (Int × Int) → Option (List Bool))) :: OwnS 3 1 vq10_1_3 (rq10_1_1.map cI) :: Bx b2 80 [.slice none 0 0, U 0, U 0, I 0] :: L)) (listed' := #[true, true, true, true, true, true, true, true, true, false]) (by kernel_rfl) (by kernel_rfl) ?_
            refine TA.takeW 9 rfl rfl rfl rfl (StepS.assign rfl) (by kernel_rfl) (by kernel_rfl) (by kernel_rfl) rfl (.inr (fun _ s => Sat.by [4] 1 4 (by kernel_rfl) s)) ?_
            cases hj22
            refine TA.nil (by kernel_rfl) fun a w e s => ?_
            exact ⟨vq10_1_3, vq10_4_3, hsq10_4_4, rq10_6_1, hsq10_6_2, bq10_8_1, e.sub (lk_of_allIn ⟨rfl, rfl, rfl, trivial⟩), s.mono fun _ s => (by exact Sat.by [4, 1, 3, 3, 4] 5 0 (by kernel_rfl) s)⟩
        · refine TB.of rfl ?_
          refine TO.mkSSg (ee := 3) (sz := 1) (f := cI) kelemB_50_22_1_24_true kinfo_22_bind_zero_some_slice_none_0_0 rfl rfl hkq10_4_2 rfl fun vq10_4_3 hsq10_4_4 => ?_
          refine TA.back (.inr (fun _ s => Sat.by [1] 1 1 (by kernel_rfl) s)) ?_
          refine TA.asL (L' := (SS 22 3 1 cI vq10_4_3 hsq10_4_4 (yq10_4_1) :: Bx b2 80 [.slice none 0 0, U 0, U 0, I 0] :: L)) (listed' := #[true, false, true, true, true, true, false, false, false, false]) (by kernel_rfl) (by kernel_rfl) ?_
          refine TA.all2 (i := 1) (j := 6) (by kernel_rfl) ?_ ?_
          · refine TB.of rfl ?_
            refine TO.callO kcallB_82_true rfl rfl rfl (fun _ st => C82 e0.tl.tl hcq10_1_2 st) ?_
            rintro vq10_1_3 _ ⟨_, rfl, rfl⟩
            refine TA.back (.inr (fun _ s => Sat.by [2] 1 2 (by kernel_rfl) s)) ?_
            refine TA.asL (L' := (OwnS 3 1 vq10_1_3 (rq10_1_1.map cI) :: SS 22 3 1 cI vq10_4_3 hsq10_4_4 (yq10_4_1) :: Bx b2 80 [.slice none 0 0, U 0, U 0, I 0] :: L)) (listed' := #[true, true, true, true, true, true, false, false, false, false]) (by kernel_rfl) (by kernel_rfl) ?_
            refine TA.all1 (i := 6) (by kernel_rfl) ?_
            refine TB.of rfl ?_
            refine TO.mkMS (kf := (fun k : Int × Int => .agg #[I k.1, I k.2])) (e := 4) (sz := 1) (f := cB) rfl fun rq10_6_1 hsq10_6_2 => ?_
            refine TA.back (.inr (fun _ s => Sat.by [3] 1 3 (by kernel_rfl) s)) ?_
            refine TA.asL (L' := (MS (fun k : Int × Int => .agg #[I k.1, I k.2]) 4 1 cB rq10_6_1 hsq10_6_2 ((mzero : (Int × Int) → Option (List Bool))) :: OwnS 3 1 vq10_1_3 (rq10_1_1.map cI) :: SS 22 3 1 cI vq10_4_3 hsq10_4_4 (yq10_4_1) :: Bx b2 80 [.slice none 0 0, U 0, U 0, I 0] :: L)) (listed' := #[true, true, true, true, true, true, true, false, false, false]) (by kernel_rfl) (by kernel_rfl) ?_
            refine TA.all1 (i := 7) (by kernel_rfl) ?_
            refine TB.of rfl ?_
            refine TO.pure (fun _ s => Rd.one (OwnS.rd (Ent.at 1 rfl)) s) fun ocq10_7_1 => ?_
            refine TO.pure (fun _ s => Rd.one (RR.top (SS.rr (Ent.at 2 rfl))) s) fun ocq10_7_2 => ?_
            refine TO.s rfl rfl rfl (StepS.buildS (us := [(0, .agg #[vq10_1_3]), (1, .agg #[vq10_4_3]), (2, I r6), (3, I (-1)), (4, .map (some rq10_6_1))]) (cs := [vq10_1_3, vq10_4_3, I r6, I (-1), .map (some rq10_6_1)]) rfl (by simp only [List.map_cons, List.map_nil, ocq10_7_1.2, ocq10_7_2.2] <;> rfl) (by kernel_rfl)) ?_
            refine TA.back (.inr (fun _ s => Sat.by [3] 1 3 (by kernel_rfl) s)) ?_
            refine TA.asL (L' := (MS (fun k : Int × Int => .agg #[I k.1, I k.2]) 4 1 cB rq10_6_1 hsq10_6_2 ((mzero : (Int × Int) → Option (List Bool))) :: OwnS 3 1 vq10_1_3 (rq10_1_1.map cI) :: SS 22 3 1 cI vq10_4_3 hsq10_4_4 (yq10_4_1) :: Bx b2 80 [.slice none 0 0, U 0, U 0, I 0] :: L)) (listed' := #[true, true, true, true, true, true, true, true, false, false]) (by kernel_rfl) (by kernel_rfl) ?_
            refine TA.all1 (i := 8) (by kernel_rfl) ?_
            refine TB.of rfl ?_
            refine TO.box (cs := [vq10_1_3, vq10_4_3, I r6, I (-1), .map (some rq10_6_1)]) rfl rfl rfl fun bq10_8_1 => ?_
            refine TA.back (.inr (fun _ s => Sat.by [4] 1 4 (by kernel_rfl) s)) ?_
            refine TA.asL (L' := (Bx bq10_8_1 203 [vq10_1_3, vq10_4_3, I r6, I (-1), .map (some rq10_6_1)] :: MS (fun k : Int × Int => .agg #[I k.1, I k.2]) 4 1 cB rq10_6_1 hsq10_6_2 ((mzero : (Int × Int) → Option (List Bool))) :: OwnS 3 1 vq10_1_3 (rq10_1_1.map cI) :: SS 22 3 1 cI vq10_4_3 hsq10_4_4 (yq10_4_1) :: Bx b2 80 [.slice none 0 0, U 0, U 0, I 0] :: L)) (listed' := #[true, true, true, true, true, true, true, true, true, false]) (by kernel_rfl) (by kernel_rfl) ?_
            refine TA.takeW 9 rfl rfl rfl rfl (StepS.assign rfl) (by kernel_rfl) (by kernel_rfl) (by kernel_rfl) rfl (.inr (fun _ s => Sat.by [4] 1 4 (by kernel_rfl) s)) ?_
            cases hj22
            refine TA.nil (by kernel_rfl) fun a w e s => ?_
            exact ⟨vq10_1_3, vq10_4_3, hsq10_4_4, rq10_6_1, hsq10_6_2, bq10_8_1, e.sub (lk_of_allIn ⟨rfl, rfl, rfl, trivial⟩), s.mono fun _ s => (by exact Sat.by [4, 1, 2, 4, 4] 5 0 (by kernel_rfl) s)⟩
          · refine TB.of rfl ?_
            refine TO.mkMS (kf := (fun k : Int × Int => .agg #[I k.1, I k.2])) (e := 4) (sz := 1) (f := cB) rfl fun rq10_6_1 hsq10_6_2 => ?_
            refine TA.back (.inr (fun _ s => Sat.by [2] 1 2 (by kernel_rfl) s)) ?_
            refine TA.asL (L' := (MS (fun k : Int × Int => .agg #[I k.1, I k.2]) 4 1 cB rq10_6_1 hsq10_6_2 ((mzero : (Int × Int) → Option (List Bool))) :: SS 22 3 1 cI vq10_4_3 hsq10_4_4 (yq10_4_1) :: Bx b2 80 [.slice none 0 0, U 0, U 0, I 0] :: L)) (listed' := #[true, false, true, true, true, true, true, false, false, false]) (by kernel_rfl) (by kernel_rfl) ?_
            refine TA.all1 (i := 1) (by kernel_rfl) ?_
            refine TB.of rfl ?_
            refine TO.callO kcallB_82_true rfl rfl rfl (fun _ st => C82 e0.tl.tl.tl hcq10_1_2 st) ?_
            rintro vq10_1_3 _ ⟨_, rfl, rfl⟩
            refine TA.back (.inr (fun _ s => Sat.by [3] 1 3 (by kernel_rfl) s)) ?_
            refine TA.asL (L' := (OwnS 3 1 vq10_1_3 (rq10_1_1.map cI) :: MS (fun k : Int × Int => .agg #[I k.1, I k.2]) 4 1 cB rq10_6_1 hsq10_6_2 ((mzero : (Int × Int) → Option (List Bool))) :: SS 22 3 1 cI vq10_4_3 hsq10_4_4 (yq10_4_1) :: Bx b2 80 [.slice none 0 0, U 0, U 0, I 0] :: L)) (listed' := #[true, true, true, true, true, true, true, false, false, false]) (by kernel_rfl) (by kernel_rfl) ?_
            refine TA.all1 (i := 7) (by kernel_rfl) ?_
            refine TB.of rfl ?_
            refine TO.pure (fun _ s => Rd.one (OwnS.rd (Ent.at 0 rfl)) s) fun ocq10_7_1 => ?_
            refine TO.pure (fun _ s => Rd.one (RR.top (SS.rr (Ent.at 2 rfl))) s) fun ocq10_7_2 => ?_
            refine TO.s rfl rfl rfl (StepS.buildS (us := [(0, .agg #[vq10_1_3]), (1, .agg #[vq10_4_3]), (2, I r6), (3, I (-1)), (4, .map (some rq10_6_1))]) (cs := [vq10_1_3, vq10_4_3, I r6, I (-1), .map (some rq10_6_1)]) rfl (by simp only [List.map_cons, List.map_nil, ocq10_7_1.2, ocq10_7_2.2] <;> rfl) (by kernel_rfl)) ?_
            refine TA.back (.inr (fun _ s => Sat.by [3] 1 3 (by kernel_rfl) s)) ?_
            refine TA.asL (L' := (OwnS 3 1 vq10_1_3 (rq10_1_1.map cI) :: MS (fun k : Int × Int => .agg #[I k.1, I k.2]) 4 1 cB rq10_6_1 hsq10_6_2 ((mzero : (Int × Int) → Option (List Bool))) :: SS 22 3 1 cI vq10_4_3 hsq10_4_4 (yq10_4_1) :: Bx b2 80 [.slice none 0 0, U 0, U 0, I 0] :: L)) (listed' := #[true, true, true, true, true, true, true, true, false, false]) (by kernel_rfl) (by kernel_rfl) ?_
            refine TA.all1 (i := 8) (by kernel_rfl) ?_
            refine TB.of rfl ?_
            refine TO.box (cs := [vq10_1_3, vq10_4_3, I r6, I (-1), .map (some rq10_6_1)]) rfl rfl rfl fun bq10_8_1 => ?_
            refine TA.back (.inr (fun _ s => Sat.by [4] 1 4 (by kernel_rfl) s)) ?_
            refine TA.asL (L' := (Bx bq10_8_1 203 [vq10_1_3, vq10_4_3, I r6, I (-1), .map (some rq10_6_1)] :: OwnS 3 1 vq10_1_3 (rq10_1_1.map cI) :: MS (fun k : Int × Int => .agg #[I k.1, I k.2]) 4 1 cB rq10_6_1 hsq10_6_2 ((mzero : (Int × Int) → Option (List Bool))) :: SS 22 3 1 cI vq10_4_3 hsq10_4_4 (yq10_4_1) :: Bx b2 80 [.slice none 0 0, U 0, U 0, I 0] :: L)) (listed' := #[true, true, true, true, true, true, true, true, true, false]) (by kernel_rfl) (by kernel_rfl) ?_
            refine TA.takeW 9 rfl rfl rfl rfl (StepS.assign rfl) (by kernel_rfl) (by kernel_rfl) (by kernel_rfl) rfl (.inr (fun _ s => Sat.by [4] 1 4 (by kernel_rfl) s)) ?_
            cases hj22
            refine TA.nil (by kernel_rfl) fun a w e s => ?_
            exact ⟨vq10_1_3, vq10_4_3, hsq10_4_4, rq10_6_1, hsq10_6_2, bq10_8_1, e.sub (lk_of_allIn ⟨rfl, rfl, rfl, trivial⟩), s.mono fun _ s => (by exact Sat.by [4, 1, 3, 4, 4] 5 0 (by kernel_rfl) s)⟩
        · refine TB.of rfl ?_
          refine TO.mkMS (kf := (fun k : Int × Int => .agg #[I k.1, I k.2])) (e := 4) (sz := 1) (f := cB) rfl fun rq10_6_1 hsq10_6_2 => ?_
          refine TA.back (.inr (fun _ s => Sat.by [1] 1 1 (by kernel_rfl) s)) ?_
          refine TA.asL (L' := (MS (fun k : Int × Int => .agg #[I k.1, I k.2]) 4 1 cB rq10_6_1 hsq10_6_2 ((mzero : (Int × Int) → Option (List Bool))) :: Bx b2 80 [.slice none 0 0, U 0, U 0, I 0] :: L)) (listed' := #[true, false, true, true, false, true, true, false, false, false]) (by kernel_rfl) (by kernel_rfl) ?_
          refine TA.all2 (i := 1) (j := 4) (by kernel_rfl) ?_ ?_
          · refine TB.of rfl ?_
            refine TO.callO kcallB_82_true rfl rfl rfl (fun _ st => C82 e0.tl.tl hcq10_1_2 st) ?_
            rintro vq10_1_3 _ ⟨_, rfl, rfl⟩
            refine TA.back (.inr (fun _ s => Sat.by [2] 1 2 (by kernel_rfl) s)) ?_
            refine TA.asL (L' := (OwnS 3 1 vq10_1_3 (rq10_1_1.map cI) :: MS (fun k : Int × Int => .agg #[I k.1, I k.2]) 4 1 cB rq10_6_1 hsq10_6_2 ((mzero : (Int × Int) → Option (List Bool))) :: Bx b2 80 [.slice none 0 0, U 0, U 0, I 0] :: L)) (listed' := #[true, true, true, true, false, true, true, false, false, false]) (by kernel_rfl) (by kernel_rfl) ?_
            refine TA.all1 (i := 4) (by kernel_rfl) ?_
            refine TB.of rfl ?_
            refine TO.mkSSg (ee := 3) (sz := 1) (f := cI) kelemB_50_22_1_24_true kinfo_22_bind_zero_some_slice_none_0_0 rfl rfl hkq10_4_2 rfl fun vq10_4_3 hsq10_4_4 => ?_
            refine TA.back (.inr (fun _ s => Sat.by [3] 1 3 (by kernel_rfl) s)) ?_
            refine TA.asL (L' := (SS 22 3 1 cI vq10_4_3 hsq10_4_4 (yq10_4_1) :: OwnS 3 1 vq10_1_3 (rq10_1_1.map cI) :: MS (fun k : Int × Int => .agg #[I k.1, I k.2]) 4 1 cB rq10_6_1 hsq10_6_2 ((mzero : (Int × Int) → Option (List Bool))) :: Bx b2 80 [.slice none 0 0, U 0, U 0, I 0] :: L)) (listed' := #[true, true, true, true, true, true, true, false, false, false]) (by kernel_rfl) (by kernel_rfl) ?_
            refine TA.all1 (i := 7) (by kernel_rfl) ?_
            refine TB.of rfl ?_
            refine TO.pure (fun _ s => Rd.one (OwnS.rd (Ent.at 1 rfl)) s) fun ocq10_7_1 => ?_
            refine TO.pure (fun _ s => Rd.one (RR.top (SS.rr (Ent.at 0 rfl))) s) fun ocq10_7_2 => ?_
            refine TO.s rfl rfl rfl (StepS.buildS (us := [(0, .agg #[vq10_1_3]), (1, .agg #[vq10_4_3]), (2, I r6), (3, I (-1)), (4, .map (some rq10_6_1))]) (cs := [vq10_1_3, vq10_4_3, I r6, I (-1), .map (some rq10_6_1)]) rfl (by simp only [List.map_cons, List.map_nil, ocq10_7_1.2, ocq10_7_2.2] <;> rfl) (by kernel_rfl)) ?_
            refine TA.back (.inr (fun _ s => Sat.by [3] 1 3 (by kernel_rfl) s)) ?_
            refine TA.asL (L' := (SS 22 3 1 cI vq10_4_3 hsq10_4_4 (yq10_4_1) :: OwnS 3 1 vq10_1_3 (rq10_1_1.map cI) :: MS (fun k : Int × Int => .agg #[I k.1, I k.2]) 4 1 cB rq10_6_1 hsq10_6_2 ((mzero : (Int × Int) → Option (List Bool))) :: Bx b2 80 [.slice none 0 0, U 0, U 0, I 0] :: L)) (listed' := #[true, true, true, true, true, true, true, true, false, false]) (by kernel_rfl) (by kernel_rfl) ?_
            refine TA.all1 (i := 8) (by kernel_rfl) ?_
            refine TB.of rfl ?_
            refine TO.box (cs := [vq10_1_3, vq10_4_3, I r6, I (-1), .map (some rq10_6_1)]) rfl rfl rfl fun bq10_8_1 => ?_
            refine TA.back (.inr (fun _ s => Sat.by [4] 1 4 (by kernel_rfl) s)) ?_
            refine TA.asL (L' := (Bx bq10_8_1 203 [vq10_1_3, vq10_4_3, I r6, I (-1), .map (some rq10_6_1)] :: SS 22 3 1 cI vq10_4_3 hsq10_4_4 (yq10_4_1) :: OwnS 3 1 vq10_1_3 (rq10_1_1.map cI) :: MS (fun k : Int × Int => .agg #[I k.1, I k.2]) 4 1 cB rq10_6_1 hsq10_6_2 ((mzero : (Int × Int) → Option (List Bool))) :: Bx b2 80 [.slice none 0 0, U 0, U 0, I 0] :: L)) (listed' := #[true, true, true, true, true, true, true, true, true, false]) (by kernel_rfl) (by kernel_rfl) ?_
            refine TA.takeW 9 rfl rfl rfl rfl (StepS.assign rfl) (by kernel_rfl) (by kernel_rfl) (by kernel_rfl) rfl (.inr (fun _ s => Sat.by [4] 1 4 (by kernel_rfl) s)) ?_
            cases hj22
            refine TA.nil (by kernel_rfl) fun a w e s => ?_
            exact ⟨vq10_1_3, vq10_4_3, hsq10_4_4, rq10_6_1, hsq10_6_2, bq10_8_1, e.sub (lk_of_allIn ⟨rfl, rfl, rfl, trivial⟩), s.mono fun _ s => (by exact Sat.by [4, 1, 4, 3, 4] 5 0 (by kernel_rfl) s)⟩
          · refine TB.of rfl ?_
            refine TO.mkSSg (ee := 3) (sz := 1) (f := cI) kelemB_50_22_1_24_true kinfo_22_bind_zero_some_slice_none_0_0 rfl rfl hkq10_4_2 rfl fun vq10_4_3 hsq10_4_4 => ?_
            refine TA.back (.inr (fun _ s => Sat.by [2] 1 2 (by kernel_rfl) s)) ?_
            refine TA.asL (L' := (SS 22 3 1 cI vq10_4_3 hsq10_4_4 (yq10_4_1) :: MS (fun k : Int × Int => .agg #[I k.1, I k.2]) 4 1 cB rq10_6_1 hsq10_6_2 ((mzero : (Int × Int) → Option (List Bool))) :: Bx b2 80 [.slice none 0 0, U 0, U 0, I 0] :: L)) (listed' := #[true, false, true, true, true, true, true, false, false, false]) (by kernel_rfl) (by kernel_rfl) ?_
            refine TA.all1 (i := 1) (by kernel_rfl) ?_
            refine TB.of rfl ?_
            refine TO.callO kcallB_82_true rfl rfl rfl (fun _ st => C82 e0.tl.tl.tl hcq10_1_2 st) ?_
            rintro vq10_1_3 _ ⟨_, rfl, rfl⟩
            refine TA.back (.inr (fun _ s => Sat.by [3] 1 3 (by kernel_rfl) s)) ?_
            refine TA.asL (L' := (OwnS 3 1 vq10_1_3 (rq10_1_1.map cI) :: SS 22 3 1 cI vq10_4_3 hsq10_4_4 (yq10_4_1) :: MS (fun k : Int × Int => .agg #[I k.1, I k.2]) 4 1 cB rq10_6_1 hsq10_6_2 ((mzero : (Int × Int) → Option (List Bool))) :: Bx b2 80 [.slice none 0 0, U 0, U 0, I 0] :: L)) (listed' := #[true, true, true, true, true, true, true, false, false, false]) (by kernel_rfl) (by kernel_rfl) ?_
            refine TA.all1 (i := 7) (by kernel_rfl) ?_
            refine TB.of rfl ?_
            refine TO.pure (fun _ s => Rd.one (OwnS.rd (Ent.at 0 rfl)) s) fun ocq10_7_1 => ?_
            refine TO.pure (fun _ s => Rd.one (RR.top (SS.rr (Ent.at 1 rfl))) s) fun ocq10_7_2 => ?_
            refine TO.s rfl rfl rfl (StepS.buildS (us := [(0, .agg #[vq10_1_3]), (1, .agg #[vq10_4_3]), (2, I r6), (3, I (-1)), (4, .map (some rq10_6_1))]) (cs := [vq10_1_3, vq10_4_3, I r6, I (-1), .map (some rq10_6_1)]) rfl (by simp only [List.map_cons, List.map_nil, ocq10_7_1.2, ocq10_7_2.2] <;> rfl) (by kernel_rfl)) ?_
            refine TA.back (.inr (fun _ s => Sat.by [3] 1 3 (by kernel_rfl) s)) ?_
            refine TA.asL (L' := (OwnS 3 1 vq10_1_3 (rq10_1_1.map cI) :: SS 22 3 1 cI vq10_4_3 hsq10_4_4 (yq10_4_1) :: MS (fun k : Int × Int => .agg #[I k.1, I k.2]) 4 1 cB rq10_6_1 hsq10_6_2 ((mzero : (Int × Int) → Option (List Bool))) :: Bx b2 80 [.slice none 0 0, U 0, U 0, I 0] :: L)) (listed' := #[true, true, true, true, true, true, true, true, false, false]) (by kernel_rfl) (by kernel_rfl) ?_
            refine TA.all1 (i := 8) (by kernel_rfl) ?_
            refine TB.of rfl ?_
            refine TO.box (cs := [vq10_1_3, vq10_4_3, I r6, I (-1), .map (some rq10_6_1)]) rfl rfl rfl fun bq10_8_1 => ?_
            refine TA.back (.inr (fun _ s => Sat.by [4] 1 4 (by kernel_rfl) s)) ?_
            refine TA.asL (L' := (Bx bq10_8_1 203 [vq10_1_3, vq10_4_3, I r6, I (-1), .map (some rq10_6_1)] :: OwnS 3 1 vq10_1_3 (rq10_1_1.map cI) :: SS 22 3 1 cI vq10_4_3 hsq10_4_4 (yq10_4_1) :: MS (fun k : Int × Int => .agg #[I k.1, I k.2]) 4 1 cB rq10_6_1 hsq10_6_2 ((mzero : (Int × Int) → Option (List Bool))) :: Bx b2 80 [.slice none 0 0, U 0, U 0, I 0] :: L)) (listed' := #[true, true, true, true, true, true, true, true, true, false]) (by kernel_rfl) (by kernel_rfl) ?_
            refine TA.takeW 9 rfl rfl rfl rfl (StepS.assign rfl) (by kernel_rfl) (by kernel_rfl) (by kernel_rfl) rfl (.inr (fun _ s => Sat.by [4] 1 4 (by kernel_rfl) s)) ?_
            cases hj22
            refine TA.nil (by kernel_rfl) fun a w e s => ?_
            exact ⟨vq10_1_3, vq10_4_3, hsq10_4_4, rq10_6_1, hsq10_6_2, bq10_8_1, e.sub (lk_of_allIn ⟨rfl, rfl, rfl, trivial⟩), s.mono fun _ s => (by exact Sat.by [4, 1, 4, 4, 4] 5 0 (by kernel_rfl) s)⟩
      · intro a w ⟨v11, v14, hs15, r19, hs21, bq10_8_1, he, hs⟩
        refine TC.use ?_ he hs
        refine TC.k ?_
        refine TC.region ?_
        refine TO.alloc kinfo_80_bind_zero_some_agg_slice_none_0_0_U_0_U_0_I_0 rfl rfl fun b23 => ?_
        refine TO.code ?_
        refine TC.k ?_
        refine TC.k ?_
        refine TC.region ?_
        refine TO.s rfl rfl rfl (StepS.move rfl) ?_
        refine TO.s rfl rfl rfl (StepS.lenm rfl e1.tl.tl.tl.tl.tl.tl ksliceB_23_106_4_true rfl) ?_
        refine TO.s rfl rfl rfl (StepS.move rfl) ?_
        refine TO.code ?_
        obtain ⟨o62, hw63, hm⟩ := bind_some hm
        refine TC.loop hw63 (fun (y26, y29, y31, y32, x34, x35, x36) => fun a w => ∃ v24 : Value, ∃ r28 : Nat, ∃ hs30 : (Int × Int) → Value, ∃ hs33 : List Value, Mid 111 B [(4, .pointer (some ⟨b2, 0, none⟩)), (8, .pointer (some ⟨bq10_8_1, 0, none⟩)), (9, .pointer (some ⟨b23, 0, none⟩)), (48, h1), (49, I (a1.length : Int)), (50, I x36)] (OwnS 28 1 v24 (y26.map cI) :: MS (fun k : Int × Int => .agg #[I k.1, I k.2]) 4 1 cB r28 hs30 (y29) :: Bx b23 80 [v24, U 0, U 0, I 0] :: OwnS 3 1 v11 (y31.map cI) :: SS 22 3 1 cI v14 hs33 (y32) :: Bx bq10_8_1 203 [v11, v14, I x34, I x35, .map (some r28)] :: Bx b2 80 [.slice none 0 0, U 0, U 0, I 0] :: L) a w) (fun (y52, y55, y57, y58, x60, x61) => fun a w => ∃ v50 : Value, ∃ r54 : Nat, ∃ hs56 : (Int × Int) → Value, ∃ hs59 : List Value, Mid 111 B [(4, .pointer (some ⟨b2, 0, none⟩)), (8, .pointer (some ⟨bq10_8_1, 0, none⟩)), (9, .pointer (some ⟨b23, 0, none⟩))] (OwnS 28 1 v50 (y52.map cI) :: MS (fun k : Int × Int => .agg #[I k.1, I k.2]) 4 1 cB r54 hs56 (y55) :: Bx b23 80 [v50, U 0, U 0, I 0] :: OwnS 3 1 v11 (y57.map cI) :: SS 22 3 1 cI v14 hs59 (y58) :: Bx bq10_8_1 203 [v11, v14, I x60, I x61, .map (some r54)] :: Bx b2 80 [.slice none 0 0, U 0, U 0, I 0] :: L) a w) (fun (_ : Unit) _ _ => False) ?_ ?_ ?_ ?_
        · rintro ⟨y26, y29, y31, y32, x34, x35, x36⟩ o62r hb64 a w ⟨v24, r28, hs30, hs33, he, hs⟩
          dsimp only [F46_L0] at hb64
          refine TC.use ?_ he hs
          refine TC.k ?_
          refine TC.region ?_
          refine TO.s rfl rfl rfl (StepS.cmp rfl rfl rfl) ?_
          refine TO.code ?_
          refine TC.k ?_
          refine TC.cond rfl (fun hc65 => ?_) (fun hc65 => ?_)
          · replace hb64 := cond_t hc65 hb64
            refine TC.skipk ?_
            refine TC.k ?_
            refine TC.block ?_
            refine TC.k ?_
            refine TC.region ?_
            obtain ⟨x66, hx67, hb64⟩ := bind_some hb64
            refine TO.s rfl rfl rfl (StepS.idx rfl rfl e1.tl.tl.tl.tl.tl.tl.tl ksliceB_23_106_4_true (idx_spec hx67).1 (idxm_lt hx67)) ?_
            refine TO.s rfl rfl rfl (StepS.ldE rfl e1.tl.tl.tl.tl.tl.tl.tl kaggB_106_4_true rfl (idxm hx67)) ?_
            refine TO.alloc kinfo_106_bind_zero_some_agg_I_0_I_0_I_0_I_0 rfl rfl fun b68 => ?_
            refine TO.stB (us := [I x66.1, I x66.2.1, I x66.2.2.1, I x66.2.2.2]) 0 [I x66.1, I x66.2.1, I x66.2.2.1, I x66.2.2.2] rfl rfl rfl ksizeB_106_4_true rfl rfl rfl (by simp [Value.oneCell']) rfl ?_
            refine TO.code ?_
            refine TC.region_any (Bx b68 106 [I x66.1, I x66.2.1, I x66.2.2.1, I x66.2.2.2] :: Bx b23 80 [v24, U 0, U 0, I 0] :: Bx b2 80 [.slice none 0 0, U 0, U 0, I 0] :: L) 8 9 kfollows_mixedOrders_true rfl ?_
            refine TA.takeW 0 rfl rfl rfl rfl (StepS.fld rfl kfieldB_80_0_0_true) (by kernel_rfl) (by kernel_rfl) (by kernel_rfl) rfl (.inr (fun _ s => Sat.by [7, 4, 2] 3 5 (by kernel_rfl) s)) ?_
            refine TA.take 1 rfl rfl rfl rfl (StepS.ldB rfl (Ent.at 1 rfl) kscalB_24_true rfl) (by kernel_rfl) (by kernel_rfl) (by kernel_rfl) (by kernel_rfl) (by kernel_rfl) (fun _ s => Sat.by [7, 4, 2] 3 5 (by kernel_rfl) s) ?_
            refine TA.takeW 2 rfl rfl rfl rfl (StepS.move rfl) (by kernel_rfl) (by kernel_rfl) (by kernel_rfl) rfl (.inr (fun _ s => Sat.by [7, 4, 2] 3 5 (by kernel_rfl) s)) ?_
            refine TA.take 3 rfl rfl rfl rfl (StepS.ldBA rfl (Ent.at 0 rfl) kaggB_106_4_true rfl rfl) (by kernel_rfl) (by kernel_rfl) (by kernel_rfl) (by kernel_rfl) (by kernel_rfl) (fun _ s => Sat.by [7, 4, 2] 3 5 (by kernel_rfl) s) ?_
            refine TA.all1 (i := 4) (by kernel_rfl) ?_
            refine TB.of rfl ?_
            refine TO.ghost (fun _ s => Sat.front 2 rfl s) ?_
            refine TO.ghost (fun _ s => Sat.front 5 rfl s) ?_
            refine TO.ghost (fun _ s => Sat.front 5 rfl s) ?_
            refine TO.ghost (fun _ s => Sat.front 6 rfl s) ?_
            obtain ⟨⟨rq69_4_1, rq69_4_2⟩, hcq69_4_3, hb64⟩ := bind_some hb64
            refine TO.callO kcallB_83_true rfl rfl rfl (fun _ st => C83 (a0 := (y31, y32, x34, x35, y29))  hcq69_4_3 st) ?_
            rintro _ _ ⟨hsq69_4_5, rq69_4_7, hdq69_4_8, rfl, rfl⟩
            refine TA.back (.inr (fun _ s => Sat.by [7, 7, 6] 3 5 (by kernel_rfl) s)) ?_
            refine TA.asL (L' := (Bx bq10_8_1 203 [v11, v14, I rq69_4_2.2.2.1, I rq69_4_2.2.2.2.1, .map (some rq69_4_7)] :: OwnS 3 1 v11 (rq69_4_2.1.map cI) :: SS 22 3 1 cI v14 hsq69_4_5 (rq69_4_2.2.1) :: MS (fun k : Int × Int => .agg #[I k.1, I k.2]) 4 1 cB rq69_4_7 hdq69_4_8 (rq69_4_2.2.2.2.2) :: Bx b68 106 [I x66.1, I x66.2.1, I x66.2.2.1, I x66.2.2.2] :: OwnS 28 1 v24 (y26.map cI) :: Bx b23 80 [v24, U 0, U 0, I 0] :: Bx b2 80 [.slice none 0 0, U 0, U 0, I 0] :: L)) (listed' := #[true, true, true, true, true, false, false, false, false]) (by kernel_rfl) (by kernel_rfl) ?_
            refine TA.all1 (i := 5) (by kernel_rfl) ?_
            refine TB.of rfl ?_
            refine TO.litS (f := cI) ([rq69_4_1] : List Int) kelemB_24_28_1_8_true kinfo_28_bind_zero_some_I_0 rfl rfl (fun _ => rfl) rfl rfl (by kernel_rfl) rfl fun vq69_5_1 => ?_
            refine TA.back (.inr (fun _ s => Sat.by [8, 8, 7] 3 6 (by kernel_rfl) s)) ?_
            refine TA.asL (L' := (OwnS 28 1 vq69_5_1 (([rq69_4_1] : List Int).map cI) :: Bx bq10_8_1 203 [v11, v14, I rq69_4_2.2.2.1, I rq69_4_2.2.2.2.1, .map (some rq69_4_7)] :: OwnS 3 1 v11 (rq69_4_2.1.map cI) :: SS 22 3 1 cI v14 hsq69_4_5 (rq69_4_2.2.1) :: MS (fun k : Int × Int => .agg #[I k.1, I k.2]) 4 1 cB rq69_4_7 hdq69_4_8 (rq69_4_2.2.2.2.2) :: Bx b68 106 [I x66.1, I x66.2.1, I x66.2.2.1, I x66.2.2.2] :: OwnS 28 1 v24 (y26.map cI) :: Bx b23 80 [v24, U 0, U 0, I 0] :: Bx b2 80 [.slice none 0 0, U 0, U 0, I 0] :: L)) (listed' := #[true, true, true, true, true, true, false, false, false]) (by kernel_rfl) (by kernel_rfl) ?_
            refine TA.all1 (i := 6) (by kernel_rfl) ?_
            refine TB.of rfl ?_
            obtain ⟨yq69_6_1, hkq69_6_2, hb64⟩ := bind_some hb64
            refine TO.app (k := 6) (f := cI) kelemB_24_28_1_8_true (by decide) rfl rfl rfl (OwnS.rd (Ent.at 0 rfl)) hkq69_6_2 (fun x c hc => by simp [Value.oneCell'] at hc ⊢; first | (obtain rfl := hc; rfl) | (rcases hc with rfl <;> rfl)) rfl rfl fun vq69_6_3 => ?_
            refine TA.back (.inr (fun _ s => Sat.by [8, 8, 7] 3 6 (by kernel_rfl) s)) ?_
            refine TA.asL (L' := (OwnS 28 1 vq69_5_1 (([rq69_4_1] : List Int).map cI) :: Bx bq10_8_1 203 [v11, v14, I rq69_4_2.2.2.1, I rq69_4_2.2.2.2.1, .map (some rq69_4_7)] :: OwnS 3 1 v11 (rq69_4_2.1.map cI) :: SS 22 3 1 cI v14 hsq69_4_5 (rq69_4_2.2.1) :: MS (fun k : Int × Int => .agg #[I k.1, I k.2]) 4 1 cB rq69_4_7 hdq69_4_8 (rq69_4_2.2.2.2.2) :: Bx b68 106 [I x66.1, I x66.2.1, I x66.2.2.1, I x66.2.2.2] :: OwnS 28 1 vq69_6_3 (yq69_6_1.map cI) :: Bx b23 80 [v24, U 0, U 0, I 0] :: Bx b2 80 [.slice none 0 0, U 0, U 0, I 0] :: L)) (listed' := #[true, true, true, true, true, true, true, false, false]) (by kernel_rfl) (by kernel_rfl) ?_
            refine TA.takeW 7 rfl rfl rfl rfl (StepS.fld rfl kfieldB_80_0_0_true) (by kernel_rfl) (by kernel_rfl) (by kernel_rfl) rfl (.inr (fun _ s => Sat.by [8, 8, 7] 3 6 (by kernel_rfl) s)) ?_
            refine TA.all1 (i := 8) (by kernel_rfl) ?_
            refine TB.of rfl ?_
            refine TO.pure (fun _ s => Rd.one (OwnS.rd (Ent.at 6 rfl)) s) fun ocq69_8_1 => ?_
            refine TO.stB (us := [vq69_6_3]) 7 [vq69_6_3, U 0, U 0, I 0] rfl rfl rfl ksizeB_24_1_true ocq69_8_1.2 rfl rfl (by intro u hu; simp only [List.mem_cons, List.not_mem_nil, or_false] at hu; rcases hu with rfl <;> first | exact ocq69_8_1.1 | rfl) rfl ?_
            refine TA.back (.inl (by kernel_rfl)) ?_
            refine TA.asL (L' := (OwnS 28 1 vq69_5_1 (([rq69_4_1] : List Int).map cI) :: Bx bq10_8_1 203 [v11, v14, I rq69_4_2.2.2.1, I rq69_4_2.2.2.2.1, .map (some rq69_4_7)] :: OwnS 3 1 v11 (rq69_4_2.1.map cI) :: SS 22 3 1 cI v14 hsq69_4_5 (rq69_4_2.2.1) :: MS (fun k : Int × Int => .agg #[I k.1, I k.2]) 4 1 cB rq69_4_7 hdq69_4_8 (rq69_4_2.2.2.2.2) :: Bx b68 106 [I x66.1, I x66.2.1, I x66.2.2.1, I x66.2.2.2] :: OwnS 28 1 vq69_6_3 (yq69_6_1.map cI) :: Bx b23 80 [vq69_6_3, U 0, U 0, I 0] :: Bx b2 80 [.slice none 0 0, U 0, U 0, I 0] :: L)) (listed' := #[true, true, true, true, true, true, true, true, true]) (by kernel_rfl) (by kernel_rfl) ?_
            refine TA.code (by kernel_rfl) ?_
            refine TC.region ?_
            refine TO.s rfl rfl rfl (StepS.ari rfl rfl rfl) ?_
            refine TO.s rfl rfl rfl (StepS.move rfl) ?_
            cases hb64
            refine TO.nil fun a w e s => ?_
            exact ⟨vq69_6_3, rq69_4_7, hdq69_4_8, hsq69_4_5, e.sub (lk_of_allIn ⟨rfl, rfl, rfl, rfl, rfl, rfl, trivial⟩), s.mono fun _ s => (by exact Sat.by [8, 2, 4, 4, 8, 6, 8] 7 2 (by kernel_rfl) s)⟩
          · replace hb64 := cond_f hc65 hb64
            cases hb64
            refine TC.exit rfl fun a w e s => ?_
            exact ⟨v24, r28, hs30, hs33, e.sub (lk_of_allIn ⟨rfl, rfl, rfl, trivial⟩), s⟩
        · exact fun a w e s => ⟨.slice none 0 0, r19, hs21, hs15, e.sub (lk_of_allIn ⟨rfl, rfl, rfl, rfl, rfl, rfl, trivial⟩), s.mono fun _ s => (by replace s := Sat.nilS (e := 28) (sz := 1) (f := cI) s; exact Sat.by [6, 6, 5, 5, 5, 6, 6] 7 0 (by kernel_rfl) s)⟩
        · rintro ⟨y52, y55, y57, y58, x60, x61⟩ rfl a w ⟨v50, r54, hs56, hs59, he, hs⟩
          dsimp only [Ctl.on] at hm
          refine TC.use ?_ he hs
          refine TC.k ?_
          refine TC.k ?_
          refine TC.region ?_
          refine TO.s rfl rfl rfl (StepS.move rfl) ?_
          refine TO.s rfl rfl rfl (StepS.nilc rfl) ?_
          refine TO.s rfl rfl rfl (StepS.fld rfl kfieldB_203_1_1_true) ?_
          refine TO.s rfl rfl rfl (StepS.ldB rfl (Ent.at 5 rfl) kscalB_50_true rfl) ?_
          refine TO.s rfl rfl rfl (StepS.lenRR rfl (SS.rr (Ent.at 4 rfl)) ksliceB_50_22_1_true rfl) ?_
          refine TO.s rfl rfl rfl (StepS.move rfl) ?_
          refine TO.code ?_
          obtain ⟨o78, hw79, hm⟩ := bind_some hm
          refine TC.loop hw79 (fun (x70, x71, x72) => fun a w => Mid 111 B [(4, .pointer (some ⟨b2, 0, none⟩)), (8, .pointer (some ⟨bq10_8_1, 0, none⟩)), (9, .pointer (some ⟨b23, 0, none⟩)), (66, v14), (67, I (y58.length : Int)), (68, I x72)] (OwnS 28 1 v50 (y52.map cI) :: MS (fun k : Int × Int => .agg #[I k.1, I k.2]) 4 1 cB r54 hs56 (y55) :: Bx b23 80 [v50, U x70, U x71, I 0] :: OwnS 3 1 v11 (y57.map cI) :: SS 22 3 1 cI v14 hs59 (y58) :: Bx bq10_8_1 203 [v11, v14, I x60, I x61, .map (some r54)] :: Bx b2 80 [.slice none 0 0, U 0, U 0, I 0] :: L) a w) (fun (x76, x77) => fun a w => Mid 111 B [(4, .pointer (some ⟨b2, 0, none⟩)), (8, .pointer (some ⟨bq10_8_1, 0, none⟩)), (9, .pointer (some ⟨b23, 0, none⟩))] (OwnS 28 1 v50 (y52.map cI) :: MS (fun k : Int × Int => .agg #[I k.1, I k.2]) 4 1 cB r54 hs56 (y55) :: Bx b23 80 [v50, U x76, U x77, I 0] :: OwnS 3 1 v11 (y57.map cI) :: SS 22 3 1 cI v14 hs59 (y58) :: Bx bq10_8_1 203 [v11, v14, I x60, I x61, .map (some r54)] :: Bx b2 80 [.slice none 0 0, U 0, U 0, I 0] :: L) a w) (fun (_ : Unit) _ _ => False) ?_ ?_ ?_ ?_
          · rintro ⟨x70, x71, x72⟩ o78r hb80 a w ⟨he, hs⟩
            dsimp only [F46_L1] at hb80
            refine TC.use ?_ he hs
            refine TC.k ?_
            refine TC.region ?_
            refine TO.s rfl rfl rfl (StepS.cmp rfl rfl rfl) ?_
            refine TO.code ?_
            refine TC.k ?_
            refine TC.cond rfl (fun hc81 => ?_) (fun hc81 => ?_)
            · replace hb80 := cond_t hc81 hb80
              refine TC.skipk ?_
              refine TC.k ?_
              obtain ⟨⟨x82, x83⟩, hj84, hb80⟩ := bind_some hb80
              first | refine TC.cutM (fun a w => Mid 111 B [(4, .pointer (some ⟨b2, 0, none⟩)), (8, .pointer (some ⟨bq10_8_1, 0, none⟩)), (9, .pointer (some ⟨b23, 0, none⟩)), (66, v14), (67, I (y58.length : Int)), (68, I x72)] (OwnS 28 1 v50 (y52.map cI) :: MS (fun k : Int × Int => .agg #[I k.1, I k.2]) 4 1 cB r54 hs56 (y55) :: Bx b23 80 [v50, U x82, U x83, I 0] :: OwnS 3 1 v11 (y57.map cI) :: SS 22 3 1 cI v14 hs59 (y58) :: Bx bq10_8_1 203 [v11, v14, I x60, I x61, .map (some r54)] :: Bx b2 80 [.slice none 0 0, U 0, U 0, I 0] :: L) a w) ?_ ?_ | refine TC.cutX (fun a w => Mid 111 B [(4, .pointer (some ⟨b2, 0, none⟩)), (8, .pointer (some ⟨bq10_8_1, 0, none⟩)), (9, .pointer (some ⟨b23, 0, none⟩)), (66, v14), (67, I (y58.length : Int)), (68, I x72)] (OwnS 28 1 v50 (y52.map cI) :: MS (fun k : Int × Int => .agg #[I k.1, I k.2]) 4 1 cB r54 hs56 (y55) :: Bx b23 80 [v50, U x82, U x83, I 0] :: OwnS 3 1 v11 (y57.map cI) :: SS 22 3 1 cI v14 hs59 (y58) :: Bx bq10_8_1 203 [v11, v14, I x60, I x61, .map (some r54)] :: Bx b2 80 [.slice none 0 0, U 0, U 0, I 0] :: L) a w) ?_ ?_
              · refine TC.block ?_
                refine TC.k ?_
                refine TC.region ?_
                refine TO.s rfl rfl rfl (StepS.move rfl) ?_
                obtain ⟨x85, hx86, hj84⟩ := bind_some hj84
                refine TO.s rfl rfl rfl (StepS.idxRR rfl rfl (SS.rr (Ent.at 4 rfl)) ksliceB_50_22_1_true hx86) ?_
                refine TO.s rfl rfl rfl (StepS.ldRR rfl (SS.rr (Ent.at 4 rfl)) kscalB_22_true hx86) ?_
                refine TO.s rfl rfl rfl (StepS.assign rfl) ?_
                refine TO.s rfl rfl rfl (StepS.assign rfl) ?_
                refine TO.code ?_
                refine TC.k ?_
                refine TC.k ?_
                refine TC.region ?_
                refine TO.s rfl rfl rfl (StepS.move rfl) ?_
                refine TO.s rfl rfl rfl (StepS.nilc rfl) ?_
                refine TO.s rfl rfl rfl (StepS.fld rfl kfieldB_203_3_3_true) ?_
                refine TO.s rfl rfl rfl (StepS.ldB rfl (Ent.at 5 rfl) kscalB_3_true rfl) ?_
                refine TO.s rfl rfl rfl (StepS.move rfl) ?_
                refine TO.s rfl rfl rfl (StepS.cmp rfl rfl rfl) ?_
                refine TO.code ?_
                obtain ⟨x88, hj89, hj84⟩ := bind_some hj84
                first | refine TC.cutM (fun a w => Mid 111 B [(4, .pointer (some ⟨b2, 0, none⟩)), (8, .pointer (some ⟨bq10_8_1, 0, none⟩)), (9, .pointer (some ⟨b23, 0, none⟩)), (12, I x72), (13, (rowv hs59 x72.toNat)), (66, v14), (67, I (y58.length : Int)), (68, I x72)] (OwnS 28 1 v50 (y52.map cI) :: MS (fun k : Int × Int => .agg #[I k.1, I k.2]) 4 1 cB r54 hs56 (y55) :: Bx b23 80 [v50, U x88, U x71, I 0] :: OwnS 3 1 v11 (y57.map cI) :: SS 22 3 1 cI v14 hs59 (y58) :: Bx bq10_8_1 203 [v11, v14, I x60, I x61, .map (some r54)] :: Bx b2 80 [.slice none 0 0, U 0, U 0, I 0] :: L) a w) ?_ ?_ | refine TC.cutX (fun a w => Mid 111 B [(4, .pointer (some ⟨b2, 0, none⟩)), (8, .pointer (some ⟨bq10_8_1, 0, none⟩)), (9, .pointer (some ⟨b23, 0, none⟩)), (12, I x72), (13, (rowv hs59 x72.toNat)), (66, v14), (67, I (y58.length : Int)), (68, I x72)] (OwnS 28 1 v50 (y52.map cI) :: MS (fun k : Int × Int => .agg #[I k.1, I k.2]) 4 1 cB r54 hs56 (y55) :: Bx b23 80 [v50, U x88, U x71, I 0] :: OwnS 3 1 v11 (y57.map cI) :: SS 22 3 1 cI v14 hs59 (y58) :: Bx bq10_8_1 203 [v11, v14, I x60, I x61, .map (some r54)] :: Bx b2 80 [.slice none 0 0, U 0, U 0, I 0] :: L) a w) ?_ ?_
                · refine TC.cond rfl (fun hc90 => ?_) (fun hc90 => ?_)
                  · replace hj89 := cond_t hc90 hj89
                    refine TC.region_tail 6 kfollows_mixedOrders_true (by kernel_rfl) ?_
                    refine TS.s rfl rfl rfl (StepS.fld rfl kfieldB_80_1_1_true) ?_
                    refine TS.s rfl rfl rfl (StepS.ldB rfl (Ent.at 2 rfl) kscalB_36_true rfl) ?_
                    refine TS.s rfl rfl rfl (StepS.move rfl) ?_
                    obtain ⟨k91, hk92, hj89⟩ := bind_some hj89
                    refine TS.s rfl rfl rfl (StepS.shlk (m := 1#32) rfl rfl hk92) ?_
                    refine TS.s rfl rfl rfl (StepS.bitU rfl rfl rfl) ?_
                    refine TS.s rfl rfl rfl (StepS.fld rfl kfieldB_80_1_1_true) ?_
                    refine TS.nil ?_
                    refine TO.at ?_
                    refine TO.stB (us := [U (x70 ||| ((1#32) <<< k91))]) 2 [v50, U (x70 ||| ((1#32) <<< k91)), U x71, I 0] rfl rfl rfl ksizeB_36_1_true rfl rfl rfl (by simp [Value.oneCell']) rfl ?_
                    cases hj89
                    refine TO.nil fun a w e s => ?_
                    exact ⟨e.sub (lk_of_allIn ⟨rfl, rfl, rfl, rfl, rfl, rfl, rfl, rfl, trivial⟩), s⟩
                  · replace hj89 := cond_f hc90 hj89
                    cases hj89
                    refine TC.skip fun a w e s => ?_
                    exact ⟨e.sub (lk_of_allIn ⟨rfl, rfl, rfl, rfl, rfl, rfl, rfl, rfl, trivial⟩), s⟩
                · intro a w ⟨he, hs⟩
                  refine TC.use ?_ he hs
                  refine TC.k ?_
                  refine TC.region ?_
                  refine TO.s rfl rfl rfl (StepS.move rfl) ?_
                  refine TO.s rfl rfl rfl (StepS.move rfl) ?_
                  obtain ⟨r93, hc94, hj84⟩ := bind_some hj84
                  refine TO.q rfl rfl rfl (StepQ.call kcallB_84_true rfl rfl (fun _ st => C84 (RR.row (SS.rr (Ent.at 4 rfl)) hx86) hc94 st)) ?_
                  refine TO.code ?_
                  refine TC.cond rfl (fun hc95 => ?_) (fun hc95 => ?_)
                  · replace hj84 := cond_t hc95 hj84
                    refine TC.region_tail 6 kfollows_mixedOrders_true (by kernel_rfl) ?_
                    refine TS.s rfl rfl rfl (StepS.fld rfl kfieldB_80_2_2_true) ?_
                    refine TS.s rfl rfl rfl (StepS.ldB rfl (Ent.at 2 rfl) kscalB_36_true rfl) ?_
                    refine TS.s rfl rfl rfl (StepS.move rfl) ?_
                    obtain ⟨k96, hk97, hj84⟩ := bind_some hj84
                    refine TS.s rfl rfl rfl (StepS.shlk (m := 1#32) rfl rfl hk97) ?_
                    refine TS.s rfl rfl rfl (StepS.bitU rfl rfl rfl) ?_
                    refine TS.s rfl rfl rfl (StepS.fld rfl kfieldB_80_2_2_true) ?_
                    refine TS.nil ?_
                    refine TO.at ?_
                    refine TO.stB (us := [U (x71 ||| ((1#32) <<< k96))]) 2 [v50, U x88, U (x71 ||| ((1#32) <<< k96)), I 0] rfl rfl rfl ksizeB_36_1_true rfl rfl rfl (by simp [Value.oneCell']) rfl ?_
                    cases hj84
                    refine TO.nil fun a w e s => ?_
                    exact ⟨e.sub (lk_of_allIn ⟨rfl, rfl, rfl, rfl, rfl, rfl, trivial⟩), s⟩
                  · replace hj84 := cond_f hc95 hj84
                    cases hj84
                    refine TC.skip fun a w e s => ?_
                    exact ⟨e.sub (lk_of_allIn ⟨rfl, rfl, rfl, rfl, rfl, rfl, trivial⟩), s⟩
              · intro a w ⟨he, hs⟩
                refine TC.use ?_ he hs
                refine TC.region ?_
                refine TO.s rfl rfl rfl (StepS.ari rfl rfl rfl) ?_
                refine TO.s rfl rfl rfl (StepS.move rfl) ?_
                cases hb80
                refine TO.nil fun a w e s => ?_
                exact ⟨e.sub (lk_of_allIn ⟨rfl, rfl, rfl, rfl, rfl, rfl, trivial⟩), s⟩
            · replace hb80 := cond_f hc81 hb80
              cases hb80
              refine TC.exit rfl fun a w e s => ?_
              exact ⟨e.sub (lk_of_allIn ⟨rfl, rfl, rfl, trivial⟩), s⟩
          · exact fun a w e s => ⟨e.sub (lk_of_allIn ⟨rfl, rfl, rfl, rfl, rfl, rfl, trivial⟩), s⟩
          · rintro ⟨x76, x77⟩ rfl a w ⟨he, hs⟩
            dsimp only [Ctl.on] at hm
            refine TC.use ?_ he hs
            refine TC.k ?_
            refine TC.k ?_
            refine TC.region ?_
            refine TO.s rfl rfl rfl (StepS.move rfl) ?_
            refine TO.s rfl rfl rfl (StepS.nilc rfl) ?_
            refine TO.s rfl rfl rfl (StepS.fld rfl kfieldB_203_4_4_true) ?_
            refine TO.s rfl rfl rfl (StepS.ldB rfl (Ent.at 5 rfl) kscalB_201_true rfl) ?_
            refine TO.ghost (fun _ s => Sat.front 1 rfl s) ?_
            refine TO.rangeMS kmapGB_201_114_115_true rfl rfl fun it98 => ?_
            refine TO.code ?_
            obtain ⟨o105, hw106, hm⟩ := bind_some hm
            refine TC.rangeM hw106 (fun q99 x103 => fun a w => Mid 111 B [(4, .pointer (some ⟨b2, 0, none⟩)), (9, .pointer (some ⟨b23, 0, none⟩)), (99, .pointer (some ⟨it98, 0, none⟩))] (MSR (fun k : Int × Int => .agg #[I k.1, I k.2]) 4 1 cB it98 r54 hs56 (y55) q99 :: OwnS 28 1 v50 (y52.map cI) :: Bx b23 80 [v50, U x76, U x77, I x103] :: OwnS 3 1 v11 (y57.map cI) :: SS 22 3 1 cI v14 hs59 (y58) :: Bx bq10_8_1 203 [v11, v14, I x60, I x61, .map (some r54)] :: Bx b2 80 [.slice none 0 0, U 0, U 0, I 0] :: L) a w) (fun x103 => fun a w => Mid 111 B [(4, .pointer (some ⟨b2, 0, none⟩)), (9, .pointer (some ⟨b23, 0, none⟩))] (MS (fun k : Int × Int => .agg #[I k.1, I k.2]) 4 1 cB r54 hs56 (y55) :: OwnS 28 1 v50 (y52.map cI) :: Bx b23 80 [v50, U x76, U x77, I x103] :: OwnS 3 1 v11 (y57.map cI) :: SS 22 3 1 cI v14 hs59 (y58) :: Bx bq10_8_1 203 [v11, v14, I x60, I x61, .map (some r54)] :: Bx b2 80 [.slice none 0 0, U 0, U 0, I 0] :: L) a w) (fun (_ : Unit) _ _ => False) ?_ ?_ ?_ ?_
            · rintro q99 x103 hb107r a w ⟨he, hs⟩
              refine TC.use ?_ he hs
              refine TC.k ?_
              refine TC.region ?_
              refine TO.nextMS rfl rfl (fun hd109 => ?_) (fun k100 v101 hk102 hn108 => ?_)
              · refine TO.s rfl rfl rfl (StepS.extract rfl rfl) ?_
                refine TO.code ?_
                refine TC.k ?_
                refine TC.condF rfl ?_
                refine TC.exit rfl fun a w e s => ?_
                exact ⟨hd109, e.sub (lk_of_allIn ⟨rfl, rfl, trivial⟩), s.mono fun _ s => (by replace s := Sat.front 0 rfl s; replace s := Sat.unrangeMS s; exact s)⟩
              · refine TO.s rfl rfl rfl (StepS.extract rfl rfl) ?_
                refine TO.code ?_
                obtain ⟨_, hb1070⟩ := hb107r k100 v101 hk102 hn108
                have hb107 := hb1070
                refine TC.rmore (Pre := fun q99 x103 => fun a w => Mid 111 B [(4, .pointer (some ⟨b2, 0, none⟩)), (9, .pointer (some ⟨b23, 0, none⟩)), (99, .pointer (some ⟨it98, 0, none⟩))] (MSR (fun k : Int × Int => .agg #[I k.1, I k.2]) 4 1 cB it98 r54 hs56 (y55) q99 :: OwnS 28 1 v50 (y52.map cI) :: Bx b23 80 [v50, U x76, U x77, I x103] :: OwnS 3 1 v11 (y57.map cI) :: SS 22 3 1 cI v14 hs59 (y58) :: Bx bq10_8_1 203 [v11, v14, I x60, I x61, .map (some r54)] :: Bx b2 80 [.slice none 0 0, U 0, U 0, I 0] :: L) a w) (Ret := fun (_ : Unit) _ _ => False) 4 hk102 hn108 hb1070 ?_
                dsimp only [F46_L2] at hb107
                refine TC.k ?_
                refine TC.condT rfl ?_
                refine TC.skipk ?_
                refine TC.block ?_
                refine TC.k ?_
                refine TC.region ?_
                refine TO.s rfl rfl rfl (StepS.entryMS rfl (Ent.at 0 rfl)) ?_
                refine TO.s rfl rfl rfl (StepS.extract rfl rfl) ?_
                refine TO.s rfl rfl rfl (StepS.assign rfl) ?_
                refine TO.code ?_
                refine TC.region ?_
                refine TO.s rfl rfl rfl (StepS.fld rfl kfieldB_80_3_3_true) ?_
                refine TO.s rfl rfl rfl (StepS.ldB rfl (Ent.at 2 rfl) kscalB_3_true rfl) ?_
                refine TO.s rfl rfl rfl (StepS.move rfl) ?_
                refine TO.s rfl rfl rfl (StepS.lenm rfl (MSR.row (Ent.at 0 rfl) hk102) ksliceB_115_4_1_true rfl) ?_
                refine TO.s rfl rfl rfl (StepS.ari rfl rfl rfl) ?_
                refine TO.s rfl rfl rfl (StepS.fld rfl kfieldB_80_3_3_true) ?_
                refine TO.stB (us := [I (w64 (x103 + (v101.length : Int)))]) 2 [v50, U x76, U x77, I (w64 (x103 + (v101.length : Int)))] rfl rfl rfl ksizeB_3_1_true rfl rfl rfl (by simp [Value.oneCell']) rfl ?_
                cases hb107
                refine TO.nil fun a w e s => ?_
                exact ⟨e.sub (lk_of_allIn ⟨rfl, rfl, rfl, trivial⟩), s⟩
            · exact fun a w e s => ⟨e.sub (lk_of_allIn ⟨rfl, rfl, rfl, trivial⟩), s⟩
            · rintro x103 rfl a w ⟨he, hs⟩
              dsimp only [Ctl.onN] at hm
              refine TC.use ?_ he hs
              refine TC.k ?_
              refine TC.region ?_
              refine TO.s rfl rfl rfl (StepS.ldBA rfl (Ent.at 2 rfl) kaggB_80_4_true rfl rfl) ?_
              refine TO.pure (fun _ s => Rd.one (OwnS.rd (Ent.at 1 rfl)) s) fun oc110 => ?_
              refine TO.stB (us := [v50, U x76, U x77, I x103]) 6 [v50, U x76, U x77, I x103] rfl rfl rfl ksizeB_80_4_true rfl rfl rfl (by intro u hu; simp only [List.mem_cons, List.not_mem_nil, or_false] at hu; rcases hu with rfl | rfl | rfl | rfl <;> first | exact oc110.1 | rfl) rfl ?_
              refine TO.s rfl rfl rfl (StepS.assign rfl) ?_
              refine TO.code ?_
              cases hm
              refine TC.ret fun a w e s => ?_
              refine FRet.cell2 (P := Try.prog) (fn := Try.f46) e s rfl rfl rfl (Ent.at 6 rfl) kaggB_80_4_true rfl ?_
              refine ⟨_, _, rfl, ⟨(v50), rfl, rfl⟩, ?_⟩
              refine s.mono fun _ s => ?_
              replace s := Sat.front 1 rfl s
              replace s := Sat.erase 1 s
              replace s := Sat.erase 1 s
              replace s := Sat.erase 1 s
              replace s := Sat.erase 1 s
              replace s := Sat.erase 1 s
              replace s := Sat.erase 1 s
              exact s
            · rintro r rfl
              exact fun a w h => h.elim
          · rintro r rfl
            exact fun a w h => h.elim
        · rintro r rfl
          exact fun a w h => h.elim

set_option maxRecDepth 100000 in
theorem C47 {B : World} {L : List HP} {a0 : List Int} {h0 : Value} {r0 : Int} (e0 : Ent L (Rd 1 h0 (a0.map cI))) (hm : F47 a0 = some r0) {w : World} (st : St B L w) : Calls Try.prog 47 #[h0] w (fun e w' => (e = .returned (I r0) ∧ St B (L) w')) := by
  refine calls_of (N := 55) (L := L) (args := [h0]) Try.func47 rfl rfl rfl ?_ st
  dsimp only [F47] at hm
  refine TC.k ?_
  refine TC.region ?_
  refine TO.s rfl rfl rfl (StepS.assign rfl) ?_
  refine TO.code ?_
  refine TC.k ?_
  refine TC.k ?_
  refine TC.region ?_
  refine TO.s rfl rfl rfl (StepS.move rfl) ?_
  refine TO.s rfl rfl rfl (StepS.lenm rfl e0 ksliceB_22_3_1_true rfl) ?_
  refine TO.s rfl rfl rfl (StepS.move rfl) ?_
  refine TO.code ?_
  obtain ⟨o3, hw4, hm⟩ := bind_some hm
  refine TC.loop hw4 (fun x1 => fun a w => Mid 55 B [(0, h0), (9, h0), (10, I (a0.length : Int)), (11, I x1)] (L) a w) (fun _ => fun a w => Mid 55 B [(0, h0)] (L) a w) (fun r0 => FRet Try.prog Try.f47 (fun e w' => (e = .returned (I r0) ∧ St B (L) w'))) ?_ ?_ ?_ ?_
  · rintro x1 o3r hb5 a w ⟨he, hs⟩
    dsimp only [F47_L0] at hb5
    refine TC.use ?_ he hs
    refine TC.k ?_
    refine TC.region ?_
    refine TO.s rfl rfl rfl (StepS.cmp rfl rfl rfl) ?_
    refine TO.code ?_
    refine TC.k ?_
    refine TC.cond rfl (fun hc6 => ?_) (fun hc6 => ?_)
    · replace hb5 := cond_t hc6 hb5
      refine TC.skipk ?_
      refine TC.k ?_
      refine TC.block ?_
      refine TC.k ?_
      refine TC.region ?_
      obtain ⟨x7, hx8, hb5⟩ := bind_some hb5
      refine TO.s rfl rfl rfl (StepS.idx rfl rfl e0 ksliceB_22_3_1_true (idx_spec hx8).1 (idxm_lt hx8)) ?_
      refine TO.s rfl rfl rfl (StepS.ld0 rfl e0 kscalB_3_true rfl (idxm hx8) rfl) ?_
      refine TO.s rfl rfl rfl (StepS.assign rfl) ?_
      refine TO.code ?_
      refine TC.k ?_
      refine TC.region ?_
      refine TO.s rfl rfl rfl (StepS.move rfl) ?_
      refine TO.s rfl rfl rfl (StepS.cmp rfl rfl rfl) ?_
      refine TO.s rfl rfl rfl (StepS.move rfl) ?_
      refine TO.mid1 5 22 (.bool ((decide (x7 < 0)) || (decide (x7 ≥ (a0.length : Int))))) ?_ ?_
      · refine bcase ((decide (x7 < 0))) (fun hb9 => ?_) (fun hb9 => ?_)
        · refine TO.skip rfl rfl rfl (skipT hb9) rfl rfl ?_
          refine TO.skip rfl rfl rfl (skipT hb9) rfl rfl ?_
          refine TO.skip rfl rfl rfl (skipT hb9) rfl rfl ?_
          refine TO.skip rfl rfl rfl (skipT hb9) rfl rfl ?_
          refine TO.s rfl rfl rfl (StepS.pickT rfl hb9 rfl) ?_
          exact TO.up1 5 0 rfl rfl (by rw [hb9]; rfl) rfl
        · refine TO.sw rfl rfl rfl hb9 rfl rfl (StepS.move rfl) ?_
          refine TO.sw rfl rfl rfl hb9 rfl rfl (StepS.move rfl) ?_
          refine TO.sw rfl rfl rfl hb9 rfl rfl (StepS.lenm rfl e0 ksliceB_22_3_1_true rfl) ?_
          refine TO.sw rfl rfl rfl hb9 rfl rfl (StepS.cmp rfl rfl rfl) ?_
          refine TO.s rfl rfl rfl (StepS.pickF rfl hb9 rfl) ?_
          exact TO.up1 5 0 rfl rfl (by rw [hb9]; rfl) rfl
      refine TO.code ?_
      refine TC.cond rfl (fun hc10 => ?_) (fun hc10 => ?_)
      · replace hb5 := cond_t hc10 hb5
        refine TC.k ?_
        refine TC.region ?_
        refine TO.s rfl rfl rfl (StepS.assign rfl) ?_
        refine TO.code ?_
        cases hb5
        refine TC.ret fun a w e s => ?_
        refine FRet.mk1 (P := Try.prog) (fn := Try.f47) (t := 2) e rfl rfl ?_
        exact ⟨rfl, s.mono fun _ => Sat.dropN 0⟩
      · replace hb5 := cond_f hc10 hb5
        refine TC.skipk ?_
        refine TC.region ?_
        refine TO.s rfl rfl rfl (StepS.ari rfl rfl rfl) ?_
        refine TO.s rfl rfl rfl (StepS.move rfl) ?_
        cases hb5
        refine TO.nil fun a w e s => ?_
        exact ⟨e.sub (lk_of_allIn ⟨rfl, rfl, rfl, rfl, trivial⟩), s⟩
    · replace hb5 := cond_f hc6 hb5
      cases hb5
      refine TC.exit rfl fun a w e s => ?_
      exact ⟨e.sub (lk_of_allIn ⟨rfl, trivial⟩), s⟩
  · exact fun a w e s => ⟨e.sub (lk_of_allIn ⟨rfl, rfl, rfl, rfl, trivial⟩), s⟩
  · rintro _ rfl a w ⟨he, hs⟩
    dsimp only [Ctl.on] at hm
    refine TC.use ?_ he hs
    refine TC.k ?_
    refine TC.region ?_
    refine TO.s rfl rfl rfl (StepS.assign rfl) ?_
    refine TO.code ?_
    refine TC.k ?_
    refine TC.k ?_
    refine TC.region ?_
    refine TO.s rfl rfl rfl (StepS.move rfl) ?_
    refine TO.s rfl rfl rfl (StepS.lenm rfl e0 ksliceB_22_3_1_true rfl) ?_
    refine TO.s rfl rfl rfl (StepS.move rfl) ?_
    refine TO.code ?_
    obtain ⟨o16, hw17, hm⟩ := bind_some hm
    refine TC.loop hw17 (fun (x11, x12) => fun a w => Mid 55 B [(0, h0), (5, I x11), (24, h0), (25, I (a0.length : Int)), (26, I x12)] (L) a w) (fun x15 => fun a w => Mid 55 B [(5, I x15)] (L) a w) (fun r0 => FRet Try.prog Try.f47 (fun e w' => (e = .returned (I r0) ∧ St B (L) w'))) ?_ ?_ ?_ ?_
    · rintro ⟨x11, x12⟩ o16r hb18 a w ⟨he, hs⟩
      dsimp only [F47_L1] at hb18
      refine TC.use ?_ he hs
      refine TC.k ?_
      refine TC.region ?_
      refine TO.s rfl rfl rfl (StepS.cmp rfl rfl rfl) ?_
      refine TO.code ?_
      refine TC.k ?_
      refine TC.cond rfl (fun hc19 => ?_) (fun hc19 => ?_)
      · replace hb18 := cond_t hc19 hb18
        refine TC.skipk ?_
        refine TC.k ?_
        refine TC.block ?_
        refine TC.k ?_
        refine TC.region ?_
        refine TO.s rfl rfl rfl (StepS.move rfl) ?_
        obtain ⟨x20, hx21, hb18⟩ := bind_some hb18
        refine TO.s rfl rfl rfl (StepS.idx rfl rfl e0 ksliceB_22_3_1_true (idx_spec hx21).1 (idxm_lt hx21)) ?_
        refine TO.s rfl rfl rfl (StepS.ld0 rfl e0 kscalB_3_true rfl (idxm hx21) rfl) ?_
        refine TO.s rfl rfl rfl (StepS.assign rfl) ?_
        refine TO.s rfl rfl rfl (StepS.assign rfl) ?_
        refine TO.code ?_
        refine TC.k ?_
        refine TC.k ?_
        refine TC.region ?_
        refine TO.s rfl rfl rfl (StepS.move rfl) ?_
        refine TO.s rfl rfl rfl (StepS.move rfl) ?_
        refine TO.s rfl rfl rfl (StepS.cmp rfl rfl rfl) ?_
        refine TO.code ?_
        obtain ⟨x22, hj23, hb18⟩ := bind_some hb18
        first | refine TC.cutM (fun a w => Mid 55 B [(0, h0), (5, I x22), (6, I x12), (24, h0), (25, I (a0.length : Int)), (26, I x12)] (L) a w) ?_ ?_ | refine TC.cutX (fun a w => Mid 55 B [(0, h0), (5, I x22), (6, I x12), (24, h0), (25, I (a0.length : Int)), (26, I x12)] (L) a w) ?_ ?_
        · refine TC.cond rfl (fun hc24 => ?_) (fun hc24 => ?_)
          · replace hj23 := cond_t hc24 hj23
            refine TC.region ?_
            refine TO.s rfl rfl rfl (StepS.move rfl) ?_
            refine TO.s rfl rfl rfl (StepS.ari rfl rfl rfl) ?_
            refine TO.s rfl rfl rfl (StepS.assign rfl) ?_
            cases hj23
            refine TO.nil fun a w e s => ?_
            exact ⟨e.sub (lk_of_allIn ⟨rfl, rfl, rfl, rfl, rfl, rfl, trivial⟩), s⟩
          · replace hj23 := cond_f hc24 hj23
            cases hj23
            refine TC.skip fun a w e s => ?_
            exact ⟨e.sub (lk_of_allIn ⟨rfl, rfl, rfl, rfl, rfl, rfl, trivial⟩), s⟩
        · intro a w ⟨he, hs⟩
          refine TC.use ?_ he hs
          refine TC.k ?_
          refine TC.k ?_
          refine TC.region ?_
          refine TO.s rfl rfl rfl (StepS.assign rfl) ?_
          refine TO.code ?_
          obtain ⟨o30, hw31, hb18⟩ := bind_some hb18
          refine TC.loop hw31 (fun (x25, x26) => fun a w => Mid 55 B [(0, h0), (5, I x22), (6, I x25), (8, I x26), (24, h0), (25, I (a0.length : Int)), (26, I x12)] (L) a w) (fun x29 => fun a w => Mid 55 B [(0, h0), (5, I x22), (6, I x29), (24, h0), (25, I (a0.length : Int)), (26, I x12)] (L) a w) (fun (_ : Unit) _ _ => False) ?_ ?_ ?_ ?_
          · rintro ⟨x25, x26⟩ o30r hb32 a w ⟨he, hs⟩
            dsimp only [F47_L2] at hb32
            refine TC.use ?_ he hs
            refine TC.k ?_
            refine TC.k ?_
            refine TC.region ?_
            refine TO.s rfl rfl rfl (StepS.move rfl) ?_
            refine TO.s rfl rfl rfl (StepS.move rfl) ?_
            refine TO.s rfl rfl rfl (StepS.lenm rfl e0 ksliceB_22_3_1_true rfl) ?_
            refine TO.s rfl rfl rfl (StepS.cmp rfl rfl rfl) ?_
            refine TO.code ?_
            refine TC.cond rfl (fun hc33 => ?_) (fun hc33 => ?_)
            · replace hb32 := cond_t hc33 hb32
              refine TC.skipk ?_
              refine TC.k ?_
              refine TC.block ?_
              refine TC.region ?_
              refine TO.s rfl rfl rfl (StepS.move rfl) ?_
              refine TO.s rfl rfl rfl (StepS.move rfl) ?_
              obtain ⟨x34, hx35, hb32⟩ := bind_some hb32
              refine TO.s rfl rfl rfl (StepS.idx rfl rfl e0 ksliceB_22_3_1_true (idx_spec hx35).1 (idxm_lt hx35)) ?_
              refine TO.s rfl rfl rfl (StepS.ld0 rfl e0 kscalB_3_true rfl (idxm hx35) rfl) ?_
              refine TO.s rfl rfl rfl (StepS.assign rfl) ?_
              refine TO.code ?_
              refine TC.region ?_
              refine TO.s rfl rfl rfl (StepS.move rfl) ?_
              refine TO.s rfl rfl rfl (StepS.ari rfl rfl rfl) ?_
              refine TO.s rfl rfl rfl (StepS.assign rfl) ?_
              cases hb32
              refine TO.nil fun a w e s => ?_
              exact ⟨e.sub (lk_of_allIn ⟨rfl, rfl, rfl, rfl, rfl, rfl, rfl, trivial⟩), s⟩
            · replace hb32 := cond_f hc33 hb32
              cases hb32
              refine TC.exit rfl fun a w e s => ?_
              exact ⟨e.sub (lk_of_allIn ⟨rfl, rfl, rfl, rfl, rfl, rfl, trivial⟩), s⟩
          · exact fun a w e s => ⟨e.sub (lk_of_allIn ⟨rfl, rfl, rfl, rfl, rfl, rfl, rfl, trivial⟩), s⟩
          · rintro x29 rfl a w ⟨he, hs⟩
            dsimp only [Ctl.on] at hb18
            refine TC.use ?_ he hs
            refine TC.k ?_
            refine TC.region ?_
            refine TO.s rfl rfl rfl (StepS.move rfl) ?_
            refine TO.s rfl rfl rfl (StepS.move rfl) ?_
            obtain ⟨x36, hx37, hb18⟩ := bind_some hb18
            refine TO.s rfl rfl rfl (StepS.idx rfl rfl e0 ksliceB_22_3_1_true (idx_spec hx37).1 (idxm_lt hx37)) ?_
            refine TO.s rfl rfl rfl (StepS.ld0 rfl e0 kscalB_3_true rfl (idxm hx37) rfl) ?_
            refine TO.s rfl rfl rfl (StepS.move rfl) ?_
            refine TO.s rfl rfl rfl (StepS.cmp rfl rfl rfl) ?_
            refine TO.code ?_
            refine TC.cond rfl (fun hc38 => ?_) (fun hc38 => ?_)
            · replace hb18 := cond_t hc38 hb18
              refine TC.k ?_
              refine TC.region ?_
              refine TO.s rfl rfl rfl (StepS.assign rfl) ?_
              refine TO.code ?_
              cases hb18
              refine TC.ret fun a w e s => ?_
              refine FRet.mk1 (P := Try.prog) (fn := Try.f47) (t := 2) e rfl rfl ?_
              exact ⟨rfl, s.mono fun _ => Sat.dropN 0⟩
            · replace hb18 := cond_f hc38 hb18
              refine TC.skipk ?_
              refine TC.region ?_
              refine TO.s rfl rfl rfl (StepS.ari rfl rfl rfl) ?_
              refine TO.s rfl rfl rfl (StepS.move rfl) ?_
              cases hb18
              refine TO.nil fun a w e s => ?_
              exact ⟨e.sub (lk_of_allIn ⟨rfl, rfl, rfl, rfl, rfl, trivial⟩), s⟩
          · rintro r rfl
            exact fun a w h => h.elim
      · replace hb18 := cond_f hc19 hb18
        cases hb18
        refine TC.exit rfl fun a w e s => ?_
        exact ⟨e.sub (lk_of_allIn ⟨rfl, trivial⟩), s⟩
    · exact fun a w e s => ⟨e.sub (lk_of_allIn ⟨rfl, rfl, rfl, rfl, rfl, trivial⟩), s⟩
    · rintro x15 rfl a w ⟨he, hs⟩
      dsimp only [Ctl.on] at hm
      refine TC.use ?_ he hs
      refine TC.k ?_
      refine TC.k ?_
      refine TC.region ?_
      refine TO.s rfl rfl rfl (StepS.move rfl) ?_
      refine TO.s rfl rfl rfl (StepS.cmp rfl rfl rfl) ?_
      refine TO.code ?_
      refine TC.cond rfl (fun hc39 => ?_) (fun hc39 => ?_)
      · replace hm := cond_t hc39 hm
        refine TC.k ?_
        refine TC.region ?_
        refine TO.s rfl rfl rfl (StepS.assign rfl) ?_
        refine TO.code ?_
        cases hm
        refine TC.ret fun a w e s => ?_
        refine FRet.mk1 (P := Try.prog) (fn := Try.f47) (t := 2) e rfl rfl ?_
        exact ⟨rfl, s.mono fun _ => Sat.dropN 0⟩
      · replace hm := cond_f hc39 hm
        refine TC.skipk ?_
        refine TC.k ?_
        refine TC.region ?_
        refine TO.s rfl rfl rfl (StepS.assign rfl) ?_
        refine TO.code ?_
        cases hm
        refine TC.ret fun a w e s => ?_
        refine FRet.mk1 (P := Try.prog) (fn := Try.f47) (t := 2) e rfl rfl ?_
        exact ⟨rfl, s.mono fun _ => Sat.dropN 0⟩
    · rintro r rfl
      cases hm
      exact fun a w h => h
  · rintro r rfl
    cases hm
    exact fun a w h => h

set_option maxRecDepth 100000 in
theorem C40 {B : World} {L : List HP} {a0 : (List Int) × (BitVec 32) × (BitVec 32) × Int} {a1 : (List Int) × (BitVec 32) × (BitVec 32) × Int} {h0_1 : Value} {h1_1 : Value} {r0 : Bool} (eh0_1 : Ent L (Rd 1 h0_1 (a0.1.map cI))) (eh1_1 : Ent L (Rd 1 h1_1 (a1.1.map cI))) (hm : F40 a0 a1 = some r0) {w : World} (st : St B L w) : Calls Try.prog 40 #[.agg #[h0_1, U a0.2.1, U a0.2.2.1, I a0.2.2.2], .agg #[h1_1, U a1.2.1, U a1.2.2.1, I a1.2.2.2]] w (fun e w' => (e = .returned (.bool r0) ∧ St B (L) w')) := by
  refine calls_of (N := 31) (L := L) (args := [.agg #[h0_1, U a0.2.1, U a0.2.2.1, I a0.2.2.2], .agg #[h1_1, U a1.2.1, U a1.2.2.1, I a1.2.2.2]]) Try.func40 rfl rfl rfl ?_ st
  dsimp only [F40] at hm
  refine TC.k ?_
  refine TC.region ?_
  refine TO.box (cs := [h0_1, U a0.2.1, U a0.2.2.1, I a0.2.2.2]) rfl rfl rfl fun b3 => ?_
  refine TO.box (cs := [h1_1, U a1.2.1, U a1.2.2.1, I a1.2.2.2]) rfl rfl rfl fun b4 => ?_
  refine TO.s rfl rfl rfl (StepS.assign rfl) ?_
  refine TO.code ?_
  refine TC.k ?_
  refine TC.region ?_
  refine TO.s rfl rfl rfl (StepS.fld rfl kfieldB_80_0_0_true) ?_
  refine TO.s rfl rfl rfl (StepS.ldB rfl (Ent.at 1 rfl) kscalB_24_true rfl) ?_
  refine TO.s rfl rfl rfl (StepS.fld rfl kfieldB_80_0_0_true) ?_
  refine TO.s rfl rfl rfl (StepS.ldB rfl (Ent.at 0 rfl) kscalB_24_true rfl) ?_
  obtain ⟨r5, hc6, hm⟩ := bind_some hm
  refine TO.q rfl rfl rfl (StepQ.call kcallB_18_true rfl rfl (fun _ st => C18 eh0_1.tl.tl eh1_1.tl.tl hc6 st)) ?_
  refine TO.s rfl rfl rfl (StepS.move rfl) ?_
  refine TO.mid1 6 16 (.bool (r5 && (a0.2.1 == a1.2.1))) ?_ ?_
  · refine bcase (r5) (fun hb7 => ?_) (fun hb7 => ?_)
    · refine TO.sw rfl rfl rfl hb7 rfl rfl (StepS.fld rfl kfieldB_80_1_1_true) ?_
      refine TO.sw rfl rfl rfl hb7 rfl rfl (StepS.ldB rfl (Ent.at 1 rfl) kscalB_36_true rfl) ?_
      refine TO.sw rfl rfl rfl hb7 rfl rfl (StepS.fld rfl kfieldB_80_1_1_true) ?_
      refine TO.sw rfl rfl rfl hb7 rfl rfl (StepS.ldB rfl (Ent.at 0 rfl) kscalB_36_true rfl) ?_
      refine TO.sw rfl rfl rfl hb7 rfl rfl (StepS.cmpU rfl rfl rfl) ?_
      refine TO.s rfl rfl rfl (StepS.pickT rfl hb7 rfl) ?_
      exact TO.up1 6 0 rfl rfl (by rw [hb7]; rfl) rfl
    · refine TO.skip rfl rfl rfl (skipF hb7) rfl rfl ?_
      refine TO.skip rfl rfl rfl (skipF hb7) rfl rfl ?_
      refine TO.skip rfl rfl rfl (skipF hb7) rfl rfl ?_
      refine TO.skip rfl rfl rfl (skipF hb7) rfl rfl ?_
      refine TO.skip rfl rfl rfl (skipF hb7) rfl rfl ?_
      refine TO.s rfl rfl rfl (StepS.pickF rfl hb7 rfl) ?_
      exact TO.up1 6 0 rfl rfl (by rw [hb7]; rfl) rfl
  refine TO.s rfl rfl rfl (StepS.move rfl) ?_
  refine TO.mid1 6 23 (.bool ((r5 && (a0.2.1 == a1.2.1)) && (a0.2.2.1 == a1.2.2.1))) ?_ ?_
  · refine bcase ((r5 && (a0.2.1 == a1.2.1))) (fun hb8 => ?_) (fun hb8 => ?_)
    · refine TO.sw rfl rfl rfl hb8 rfl rfl (StepS.fld rfl kfieldB_80_2_2_true) ?_
      refine TO.sw rfl rfl rfl hb8 rfl rfl (StepS.ldB rfl (Ent.at 1 rfl) kscalB_36_true rfl) ?_
      refine TO.sw rfl rfl rfl hb8 rfl rfl (StepS.fld rfl kfieldB_80_2_2_true) ?_
      refine TO.sw rfl rfl rfl hb8 rfl rfl (StepS.ldB rfl (Ent.at 0 rfl) kscalB_36_true rfl) ?_
      refine TO.sw rfl rfl rfl hb8 rfl rfl (StepS.cmpU rfl rfl rfl) ?_
      refine TO.s rfl rfl rfl (StepS.pickT rfl hb8 rfl) ?_
      exact TO.up1 6 0 rfl rfl (by rw [hb8]; rfl) rfl
    · refine TO.skip rfl rfl rfl (skipF hb8) rfl rfl ?_
      refine TO.skip rfl rfl rfl (skipF hb8) rfl rfl ?_
      refine TO.skip rfl rfl rfl (skipF hb8) rfl rfl ?_
      refine TO.skip rfl rfl rfl (skipF hb8) rfl rfl ?_
      refine TO.skip rfl rfl rfl (skipF hb8) rfl rfl ?_
      refine TO.s rfl rfl rfl (StepS.pickF rfl hb8 rfl) ?_
      exact TO.up1 6 0 rfl rfl (by rw [hb8]; rfl) rfl
  refine TO.s rfl rfl rfl (StepS.move rfl) ?_
  refine TO.mid1 6 30 (.bool (((r5 && (a0.2.1 == a1.2.1)) && (a0.2.2.1 == a1.2.2.1)) && (a0.2.2.2 == a1.2.2.2))) ?_ ?_
  · refine bcase (((r5 && (a0.2.1 == a1.2.1)) && (a0.2.2.1 == a1.2.2.1))) (fun hb9 => ?_) (fun hb9 => ?_)
    · refine TO.sw rfl rfl rfl hb9 rfl rfl (StepS.fld rfl kfieldB_80_3_3_true) ?_
      refine TO.sw rfl rfl rfl hb9 rfl rfl (StepS.ldB rfl (Ent.at 1 rfl) kscalB_3_true rfl) ?_
      refine TO.sw rfl rfl rfl hb9 rfl rfl (StepS.fld rfl kfieldB_80_3_3_true) ?_
      refine TO.sw rfl rfl rfl hb9 rfl rfl (StepS.ldB rfl (Ent.at 0 rfl) kscalB_3_true rfl) ?_
      refine TO.sw rfl rfl rfl hb9 rfl rfl (StepS.cmp rfl rfl rfl) ?_
      refine TO.s rfl rfl rfl (StepS.pickT rfl hb9 rfl) ?_
      exact TO.up1 6 0 rfl rfl (by rw [hb9]; rfl) rfl
    · refine TO.skip rfl rfl rfl (skipF hb9) rfl rfl ?_
      refine TO.skip rfl rfl rfl (skipF hb9) rfl rfl ?_
      refine TO.skip rfl rfl rfl (skipF hb9) rfl rfl ?_
      refine TO.skip rfl rfl rfl (skipF hb9) rfl rfl ?_
      refine TO.skip rfl rfl rfl (skipF hb9) rfl rfl ?_
      refine TO.s rfl rfl rfl (StepS.pickF rfl hb9 rfl) ?_
      exact TO.up1 6 0 rfl rfl (by rw [hb9]; rfl) rfl
  refine TO.s rfl rfl rfl (StepS.assign rfl) ?_
  refine TO.code ?_
  cases hm
  refine TC.ret fun a w e s => ?_
  refine FRet.mk1 (P := Try.prog) (fn := Try.f40) (t := 4) e rfl rfl ?_
  exact ⟨rfl, s.mono fun _ => Sat.dropN 2⟩

set_option maxRecDepth 100000 in
theorem C14 {B : World} {L : List HP} {a0 : List Int} {a1 : List (Int × Int × Int × Int)} {h0 : Value} {h1 : Value} {r0 : Bool} (e0 : Ent L (Rd 1 h0 (a0.map cI))) (e1 : Ent L (Rd 4 h1 (a1.map cTiiii))) (hm : F14 a0 a1 = some r0) {w : World} (st : St B L w) : Calls Try.prog 14 #[h0, h1] w (fun e w' => (e = .returned (.bool r0) ∧ St B (L) w')) := by
  refine calls_of (N := 38) (L := L) (args := [h0, h1]) Try.func14 rfl rfl rfl ?_ st
  dsimp only [F14] at hm
  refine TC.k ?_
  refine TC.region ?_
  refine TO.s rfl rfl rfl (StepS.assign rfl) ?_
  refine TO.code ?_
  refine TC.k ?_
  refine TC.region ?_
  refine TO.s rfl rfl rfl (StepS.move rfl) ?_
  refine TO.s rfl rfl rfl (StepS.move rfl) ?_
  obtain ⟨⟨r1, r2⟩, hc3, hm⟩ := bind_some hm
  refine TO.callO kcallB_46_true rfl rfl rfl (fun _ st => C46 e0 e1 hc3 st) ?_
  rintro _ _ ⟨v4, rfl, rfl⟩
  refine TO.s rfl rfl rfl (StepS.move rfl) ?_
  refine TO.s rfl rfl rfl (StepS.extract rfl rfl) ?_
  refine TO.s rfl rfl rfl (StepS.extract rfl rfl) ?_
  refine TO.alloc kinfo_80_bind_zero_some_agg_slice_none_0_0_U_0_U_0_I_0 rfl rfl fun b6 => ?_
  refine TO.pure (fun _ s => Rd.one (OwnS.rd (Ent.at 1 rfl)) s) fun oc7 => ?_
  refine TO.stB (us := [v4, U r1.2.1, U r1.2.2.1, I r1.2.2.2]) 0 [v4, U r1.2.1, U r1.2.2.1, I r1.2.2.2] rfl rfl rfl ksizeB_80_4_true rfl rfl rfl (by intro u hu; simp only [List.mem_cons, List.not_mem_nil, or_false] at hu; rcases hu with rfl | rfl | rfl | rfl <;> first | exact oc7.1 | rfl) rfl ?_
  refine TO.s rfl rfl rfl (StepS.assign rfl) ?_
  refine TO.code ?_
  refine TC.k ?_
  refine TC.region ?_
  refine TO.s rfl rfl rfl (StepS.move rfl) ?_
  refine TO.s rfl rfl rfl (StepS.lenm rfl e0.tl.tl ksliceB_22_3_1_true rfl) ?_
  refine TO.s rfl rfl rfl (StepS.move rfl) ?_
  refine TO.s rfl rfl rfl (StepS.lenm rfl e1.tl.tl ksliceB_23_106_4_true rfl) ?_
  obtain ⟨r8, hc9, hm⟩ := bind_some hm
  refine TO.q rfl rfl rfl (StepQ.call kcallB_21_true rfl rfl (fun _ st => C21  hc9 st)) ?_
  refine TO.s rfl rfl rfl (StepS.assign rfl) ?_
  refine TO.code ?_
  refine TC.k ?_
  refine TC.k ?_
  refine TC.region ?_
  refine TO.s rfl rfl rfl (StepS.move rfl) ?_
  refine TO.s rfl rfl rfl (StepS.cmp rfl rfl rfl) ?_
  refine TO.code ?_
  obtain ⟨x10, hj11, hm⟩ := bind_some hm
  first | refine TC.cutM (fun a w => Mid 38 B [(0, h0), (1, h1), (5, .pointer (some ⟨b6, 0, none⟩)), (6, I r2), (7, I x10)] (Bx b6 80 [v4, U r1.2.1, U r1.2.2.1, I r1.2.2.2] :: OwnS 28 1 v4 (r1.1.map cI) :: L) a w) ?_ ?_ | refine TC.cutX (fun a w => Mid 38 B [(0, h0), (1, h1), (5, .pointer (some ⟨b6, 0, none⟩)), (6, I r2), (7, I x10)] (Bx b6 80 [v4, U r1.2.1, U r1.2.2.1, I r1.2.2.2] :: OwnS 28 1 v4 (r1.1.map cI) :: L) a w) ?_ ?_
  · refine TC.cond rfl (fun hc12 => ?_) (fun hc12 => ?_)
    · replace hj11 := cond_t hc12 hj11
      refine TC.region ?_
      refine TO.s rfl rfl rfl (StepS.move rfl) ?_
      obtain ⟨r13, hc14, hj11⟩ := bind_some hj11
      refine TO.q rfl rfl rfl (StepQ.call kcallB_47_true rfl rfl (fun _ st => C47 e0.tl.tl hc14 st)) ?_
      refine TO.s rfl rfl rfl (StepS.assign rfl) ?_
      cases hj11
      refine TO.nil fun a w e s => ?_
      exact ⟨e.sub (lk_of_allIn ⟨rfl, rfl, rfl, rfl, rfl, trivial⟩), s⟩
    · replace hj11 := cond_f hc12 hj11
      cases hj11
      refine TC.skip fun a w e s => ?_
      exact ⟨e.sub (lk_of_allIn ⟨rfl, rfl, rfl, rfl, rfl, trivial⟩), s⟩
  · intro a w ⟨he, hs⟩
    refine TC.use ?_ he hs
    refine TC.k ?_
    refine TC.region ?_
    refine TO.s rfl rfl rfl (StepS.build (cs := [.slice none 0 0, U 0, U 0, I 0]) rfl (by kernel_rfl)) ?_
    refine TO.alloc kinfo_80_bind_zero_some_agg_slice_none_0_0_U_0_U_0_I_0 rfl rfl fun b15 => ?_
    refine TO.stB (us := [.slice none 0 0, U 0, U 0, I 0]) 0 [.slice none 0 0, U 0, U 0, I 0] rfl rfl rfl ksizeB_80_4_true rfl rfl rfl (by simp [Value.oneCell']) rfl ?_
    refine TO.code ?_
    refine TC.k ?_
    refine TC.k ?_
    refine TC.region ?_
    refine TO.s rfl rfl rfl (StepS.move rfl) ?_
    refine TO.s rfl rfl rfl (StepS.cmp rfl rfl rfl) ?_
    refine TO.code ?_
    obtain ⟨⟨y18, x19, x20, x21⟩, hj22, hm⟩ := bind_some hm
    first | refine TC.cutM (fun a w => ∃ v16 : Value, Mid 38 B [(5, .pointer (some ⟨b6, 0, none⟩)), (6, I r2), (7, I x10), (8, .pointer (some ⟨b15, 0, none⟩))] (OwnS 28 1 v16 (y18.map cI) :: Bx b15 80 [v16, U x19, U x20, I x21] :: Bx b6 80 [v4, U r1.2.1, U r1.2.2.1, I r1.2.2.2] :: OwnS 28 1 v4 (r1.1.map cI) :: L) a w) ?_ ?_ | refine TC.cutX (fun a w => ∃ v16 : Value, Mid 38 B [(5, .pointer (some ⟨b6, 0, none⟩)), (6, I r2), (7, I x10), (8, .pointer (some ⟨b15, 0, none⟩))] (OwnS 28 1 v16 (y18.map cI) :: Bx b15 80 [v16, U x19, U x20, I x21] :: Bx b6 80 [v4, U r1.2.1, U r1.2.2.1, I r1.2.2.2] :: OwnS 28 1 v4 (r1.1.map cI) :: L) a w) ?_ ?_
    · refine TC.cond rfl (fun hc23 => ?_) (fun hc23 => ?_)
      · replace hj22 := cond_t hc23 hj22
        refine TC.region ?_
        refine TO.s rfl rfl rfl (StepS.move rfl) ?_
        refine TO.s rfl rfl rfl (StepS.move rfl) ?_
        obtain ⟨r24, hc25, hj22⟩ := bind_some hj22
        refine TO.callO kcallB_48_true rfl rfl rfl (fun _ st => C48 e0.tl.tl.tl e1.tl.tl.tl hc25 st) ?_
        rintro _ _ ⟨v26, rfl, rfl⟩
        refine TO.pure (fun _ s => Rd.one (OwnS.rd (Ent.at 0 rfl)) s) fun oc28 => ?_
        refine TO.stB (us := [v26, U r24.2.1, U r24.2.2.1, I r24.2.2.2]) 1 [v26, U r24.2.1, U r24.2.2.1, I r24.2.2.2] rfl rfl rfl ksizeB_80_4_true rfl rfl rfl (by intro u hu; simp only [List.mem_cons, List.not_mem_nil, or_false] at hu; rcases hu with rfl | rfl | rfl | rfl <;> first | exact oc28.1 | rfl) rfl ?_
        cases hj22
        refine TO.nil fun a w e s => ?_
        exact ⟨v26, e.sub (lk_of_allIn ⟨rfl, rfl, rfl, rfl, trivial⟩), s⟩
      · replace hj22 := cond_f hc23 hj22
        cases hj22
        refine TC.skip fun a w e s => ?_
        exact ⟨.slice none 0 0, e.sub (lk_of_allIn ⟨rfl, rfl, rfl, rfl, trivial⟩), s.mono fun _ s => (by replace s := Sat.nilS (e := 28) (sz := 1) (f := cI) s; exact Sat.by [3, 3, 3, 3] 4 0 (by kernel_rfl) s)⟩
    · intro a w ⟨v16, he, hs⟩
      refine TC.use ?_ he hs
      refine TC.k ?_
      refine TC.region ?_
      refine TO.s rfl rfl rfl (StepS.move rfl) ?_
      refine TO.s rfl rfl rfl (StepS.move rfl) ?_
      refine TO.s rfl rfl rfl (StepS.cmp rfl rfl rfl) ?_
      refine TO.s rfl rfl rfl (StepS.move rfl) ?_
      obtain ⟨b30, hj31, hm⟩ := bind_some hm
      refine TO.mid1 4 37 (.bool b30) ?_ ?_
      · refine bcase ((r2 == x10)) (fun hb29 => ?_) (fun hb29 => ?_)
        · replace hj31 := cond_t hb29 hj31
          refine TO.sw rfl rfl rfl hb29 rfl rfl (StepS.ldBA rfl (Ent.at 2 rfl) kaggB_80_4_true rfl rfl) ?_
          refine TO.sw rfl rfl rfl hb29 rfl rfl (StepS.ldBA rfl (Ent.at 1 rfl) kaggB_80_4_true rfl rfl) ?_
          obtain ⟨r32, hc33, hj31⟩ := bind_some hj31
          refine TO.qw rfl rfl rfl hb29 rfl rfl (StepQ.call kcallB_40_true rfl rfl (fun _ st => C40 (OwnS.rd (Ent.at 3 rfl)) (OwnS.rd (Ent.at 0 rfl)) hc33 st)) ?_
          cases hj31
          refine TO.s rfl rfl rfl (StepS.pickT rfl hb29 rfl) ?_
          exact TO.up1 4 0 rfl rfl rfl rfl
        · replace hj31 := cond_f hb29 hj31
          cases hj31
          refine TO.skip rfl rfl rfl (skipF hb29) rfl rfl ?_
          refine TO.skip rfl rfl rfl (skipF hb29) rfl rfl ?_
          refine TO.skip rfl rfl rfl (skipF hb29) rfl rfl ?_
          refine TO.s rfl rfl rfl (StepS.pickF rfl hb29 rfl) ?_
          exact TO.up1 4 0 rfl rfl rfl rfl
      refine TO.s rfl rfl rfl (StepS.assign rfl) ?_
      refine TO.code ?_
      cases hm
      refine TC.ret fun a w e s => ?_
      refine FRet.mk1 (P := Try.prog) (fn := Try.f14) (t := 4) e rfl rfl ?_
      exact ⟨rfl, s.mono fun _ => Sat.dropN 4⟩
end Go.Proofs.Ythfkdepcnhhepaa
