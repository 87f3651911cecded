/-
  The walks: each Go function returns what its model says. Written by a program (gen.py).
-/
import Derived.Test.YtgofkfhkolkfmaaProg
import Derived.KernelRfl
import Derived.Test.YtgofkfhkolkfmaaAW
import Derived.Test.YtgofkfhkolkfmaaBW
import Derived.Test.YtgofkfhkolkfmaaCW
import Derived.Test.YtgofkfhkolkfmaaDW
import Derived.Test.YtgofkfhkolkfmaaHM
namespace Go.Proofs.Ytgofkfhkolkfmaa
open Go Go.Bk
set_option linter.unusedVariables false
set_option linter.unnecessarySimpa false
theorem kcallB_4_true : callB Try.prog 4 = true := by kernel_rfl
theorem kcallB_5_true : callB Try.prog 5 = true := by kernel_rfl
theorem kcallB_6_true : callB Try.prog 6 = true := by kernel_rfl
theorem kcallB_7_true : callB Try.prog 7 = true := by kernel_rfl
theorem kcallB_8_true : callB Try.prog 8 = true := by kernel_rfl

set_option maxRecDepth 100000 in
theorem C3 {B : World} {L : List HP} {a0 : Int} {a1 : List (Int × Int × Int × Int)} {h1 : Value} {r0 : Bool} (e1 : Ent L (Rd 4 h1 (a1.map cTiiii))) (hm : F3 a0 a1 = some r0) {w : World} (st : St B L w) : Calls Try.prog 3 #[I a0, h1] w (fun e w' => (e = .returned (.bool r0) ∧ St B (L) w')) := by
  refine calls_of (N := 65) (L := L) (args := [I a0, h1]) Try.func3 rfl rfl rfl ?_ st
  dsimp only [F3] at hm
  refine TC.k ?_
  refine TC.region ?_
  refine TO.s rfl rfl rfl (StepS.assign rfl) ?_
  refine TO.code ?_
  refine TC.k ?_
  refine TC.region ?_
  refine TO.s rfl rfl rfl (StepS.move rfl) ?_
  refine TO.s rfl rfl rfl (StepS.move rfl) ?_
  refine TO.startZ (e := 3) (sz := 1) (f := cI) fun z0 zs => ?_
  obtain ⟨⟨r1, r2, r3⟩, hc4, hm⟩ := bind_some hm
  refine TO.callO kcallB_4_true rfl rfl rfl (fun _ st => C4 (zs := zs) e1 hc4 st) ?_
  rintro _ _ ⟨zs, v5, v7, hs8, rfl, rfl⟩
  refine TO.s rfl rfl rfl (StepS.move rfl) ?_
  refine TO.s rfl rfl rfl (StepS.extract rfl rfl) ?_
  refine TO.s rfl rfl rfl (StepS.extract rfl rfl) ?_
  refine TO.alloc kinfo_26_bind_zero_some_agg_slice_none_0_0_slice_none_0_0 rfl rfl fun b10 => ?_
  refine TO.pure (fun _ s => Rd.one (OwnS.rd (Ent.at 2 rfl)) s) fun oc11 => ?_
  refine TO.pure (fun _ s => Rd.one (RR.top (SS.rr (Ent.at 3 rfl))) s) fun oc12 => ?_
  refine TO.stB (us := [v5, v7]) 0 [v5, v7] rfl rfl rfl ksizeB_26_2_true rfl rfl rfl (by intro u hu; simp only [List.mem_cons, List.not_mem_nil, or_false] at hu; rcases hu with rfl | rfl <;> first | exact oc11.1 | exact oc12.1 | rfl) rfl ?_
  refine TO.s rfl rfl rfl (StepS.assign rfl) ?_
  refine TO.code ?_
  refine TC.k ?_
  refine TC.region ?_
  refine TO.s rfl rfl rfl (StepS.move rfl) ?_
  refine TO.s rfl rfl rfl (StepS.move rfl) ?_
  refine TO.s rfl rfl rfl (StepS.lenm rfl e1.tl.tl.tl.tl ksliceB_22_41_4_true rfl) ?_
  obtain ⟨r13, hc14, hm⟩ := bind_some hm
  refine TO.q rfl rfl rfl (StepQ.call kcallB_5_true rfl rfl (fun _ st => C5  hc14 st)) ?_
  refine TO.s rfl rfl rfl (StepS.assign rfl) ?_
  refine TO.code ?_
  refine TC.k ?_
  refine TC.region ?_
  refine TO.s rfl rfl rfl (StepS.build (cs := [.slice none 0 0, .slice none 0 0]) rfl (by kernel_rfl)) ?_
  refine TO.alloc kinfo_26_bind_zero_some_agg_slice_none_0_0_slice_none_0_0 rfl rfl fun b15 => ?_
  refine TO.stB (us := [.slice none 0 0, .slice none 0 0]) 0 [.slice none 0 0, .slice none 0 0] rfl rfl rfl ksizeB_26_2_true rfl rfl rfl (by simp [Value.oneCell']) rfl ?_
  refine TO.code ?_
  refine TC.k ?_
  refine TC.k ?_
  refine TC.region ?_
  refine TO.s rfl rfl rfl (StepS.move rfl) ?_
  refine TO.s rfl rfl rfl (StepS.cmp rfl rfl rfl) ?_
  refine TO.code ?_
  obtain ⟨⟨y18, y22, y23⟩, hj24, hm⟩ := bind_some hm
  first | refine TC.cutM (fun a w => ∃ v16 : Value, ∃ v19 : Value, ∃ hs20 : List Value, ∃ zs : List ZH, Mid 65 B [(5, .pointer (some ⟨b10, 0, none⟩)), (6, I r2), (7, I r13), (8, .pointer (some ⟨b15, 0, none⟩))] (OwnS 27 1 v16 (y18.map cI) :: SS 34 44 2 (cZ44 zs) v19 hs20 (y22) :: Bx b15 26 [v16, v19] :: Bx b10 26 [v5, v7] :: PZ 3 1 cI z0 zs y23 :: OwnS 27 1 v5 (r1.1.map cI) :: SS 34 44 2 (cZ44 zs) v7 hs8 (r1.2) :: L) a w) ?_ ?_ | refine TC.cutX (fun a w => ∃ v16 : Value, ∃ v19 : Value, ∃ hs20 : List Value, ∃ zs : List ZH, Mid 65 B [(5, .pointer (some ⟨b10, 0, none⟩)), (6, I r2), (7, I r13), (8, .pointer (some ⟨b15, 0, none⟩))] (OwnS 27 1 v16 (y18.map cI) :: SS 34 44 2 (cZ44 zs) v19 hs20 (y22) :: Bx b15 26 [v16, v19] :: Bx b10 26 [v5, v7] :: PZ 3 1 cI z0 zs y23 :: OwnS 27 1 v5 (r1.1.map cI) :: SS 34 44 2 (cZ44 zs) v7 hs8 (r1.2) :: L) a w) ?_ ?_
  · refine TC.cond rfl (fun hc25 => ?_) (fun hc25 => ?_)
    · replace hj24 := cond_t hc25 hj24
      refine TC.region ?_
      refine TO.s rfl rfl rfl (StepS.move rfl) ?_
      refine TO.s rfl rfl rfl (StepS.move rfl) ?_
      obtain ⟨_, hk26, hj24⟩ := bind_some hj24
      refine TO.pure (φ := zs.length = (r3).length ∧ z0 <+: zs) (fun _ s => PZ.pure (Ent.at 2 rfl) s) fun ⟨hz28, hz28p⟩ => ?_
      refine TO.ghost (fun _ s => Sat.front 2 rfl s) ?_
      refine TO.ghost (fun _ s => Sat.imp1 (fun g a => ⟨g, Sub.refl g, PZ.base g a⟩) s) ?_
      obtain ⟨zo27, rfl⟩ : ∃ z, z = zs := ⟨zs, rfl⟩
      obtain ⟨⟨r29, r30⟩, hc31, hj24⟩ := bind_some hj24
      refine TO.callO kcallB_6_true rfl rfl rfl (fun _ st => C6 (zs := zo27) e1.tl.tl.tl.tl hc31 st) ?_
      rintro _ _ ⟨zs, v32, v34, hs35, rfl, rfl⟩
      refine TO.pure (φ := zo27 <+: zs) (fun _ s => (PZ.pure (Ent.at 0 rfl) s).2) fun hp37 => ?_
      obtain ⟨zt38, rfl⟩ := hp37
      rw [show SS 34 44 2 (cZ44 zo27) v7 hs8 (r1.2) = SS 34 44 2 (cZ44 (zo27 ++ zt38)) v7 hs8 (r1.2) from SS.zext hz28 hk26 (fun _ _ _ e => by simp only [cZ44, e])]
      generalize zo27 ++ zt38 = zs
      refine TO.ghost (fun _ s => Sat.imp1 (fun g a => ⟨g, Sub.refl g, PZ.sub hz28p g a⟩) s) ?_
      refine TO.pure (fun _ s => Rd.one (OwnS.rd (Ent.at 1 rfl)) s) fun oc39 => ?_
      refine TO.pure (fun _ s => Rd.one (RR.top (SS.rr (Ent.at 2 rfl))) s) fun oc40 => ?_
      refine TO.stB (us := [v32, v34]) 3 [v32, v34] rfl rfl rfl ksizeB_26_2_true rfl rfl rfl (by intro u hu; simp only [List.mem_cons, List.not_mem_nil, or_false] at hu; rcases hu with rfl | rfl <;> first | exact oc39.1 | exact oc40.1 | rfl) rfl ?_
      cases hj24
      refine TO.nil fun a w e s => ?_
      exact ⟨v32, v34, hs35, zs, e.sub (lk_of_allIn ⟨rfl, rfl, rfl, rfl, trivial⟩), s.mono fun _ s => (by exact Sat.by [6, 6, 2, 6, 6, 6, 6] 7 0 (by kernel_rfl) s)⟩
    · replace hj24 := cond_f hc25 hj24
      cases hj24
      refine TC.skip fun a w e s => ?_
      exact ⟨.slice none 0 0, .slice none 0 0, [], zs, e.sub (lk_of_allIn ⟨rfl, rfl, rfl, rfl, trivial⟩), s.mono fun _ s => (by replace s := Sat.nilSS (e := 34) (ee := 44) (sz := 2) (f := (cZ44 zs)) s; replace s := Sat.nilS (e := 27) (sz := 1) (f := cI) s; exact Sat.by [6, 6, 6, 6, 6, 6, 6] 7 0 (by kernel_rfl) s)⟩
  · intro a w ⟨v16, v19, hs20, zs, he, hs⟩
    refine TC.use ?_ he hs
    refine TC.k ?_
    refine TC.k ?_
    refine TC.region ?_
    refine TO.s rfl rfl rfl (StepS.move rfl) ?_
    refine TO.s rfl rfl rfl (StepS.move rfl) ?_
    refine TO.s rfl rfl rfl (StepS.cmp rfl rfl rfl) ?_
    refine TO.s rfl rfl rfl (StepS.move rfl) ?_
    obtain ⟨b42, hj43, hm⟩ := bind_some hm
    refine TO.mid1 7 36 (.bool b42) ?_ ?_
    · refine bcase ((r2 != r13)) (fun hb41 => ?_) (fun hb41 => ?_)
      · replace hj43 := cond_t hb41 hj43
        cases hj43
        refine TO.skip rfl rfl rfl (skipT hb41) rfl rfl ?_
        refine TO.skip rfl rfl rfl (skipT hb41) rfl rfl ?_
        refine TO.skip rfl rfl rfl (skipT hb41) rfl rfl ?_
        refine TO.skip rfl rfl rfl (skipT hb41) rfl rfl ?_
        refine TO.skip rfl rfl rfl (skipT hb41) rfl rfl ?_
        refine TO.skip rfl rfl rfl (skipT hb41) rfl rfl ?_
        refine TO.s rfl rfl rfl (StepS.pickT rfl hb41 rfl) ?_
        exact TO.up1 7 0 rfl rfl rfl rfl
      · replace hj43 := cond_f hb41 hj43
        refine TO.sw rfl rfl rfl hb41 rfl rfl (StepS.fld rfl kfieldB_26_0_0_true) ?_
        refine TO.sw rfl rfl rfl hb41 rfl rfl (StepS.ldB rfl (Ent.at 3 rfl) kscalB_23_true rfl) ?_
        refine TO.sw rfl rfl rfl hb41 rfl rfl (StepS.fld rfl kfieldB_26_0_0_true) ?_
        refine TO.sw rfl rfl rfl hb41 rfl rfl (StepS.ldB rfl (Ent.at 2 rfl) kscalB_23_true rfl) ?_
        obtain ⟨r44, hc45, hj43⟩ := bind_some hj43
        refine TO.qw rfl rfl rfl hb41 rfl rfl (StepQ.call kcallB_7_true rfl rfl (fun _ st => C7 (OwnS.rd (Ent.at 5 rfl)) (OwnS.rd (Ent.at 0 rfl)) hc45 st)) ?_
        refine TO.sw rfl rfl rfl hb41 rfl rfl (StepS.not rfl) ?_
        cases hj43
        refine TO.s rfl rfl rfl (StepS.pickF rfl hb41 rfl) ?_
        exact TO.up1 7 0 rfl rfl rfl rfl
    refine TO.s rfl rfl rfl (StepS.move rfl) ?_
    refine TO.mid1 8 45 (.bool (b42 || ((r1.2.length : Int) != (y22.length : Int)))) ?_ ?_
    · refine bcase (b42) (fun hb46 => ?_) (fun hb46 => ?_)
      · refine TO.skip rfl rfl rfl (skipT hb46) rfl rfl ?_
        refine TO.skip rfl rfl rfl (skipT hb46) rfl rfl ?_
        refine TO.skip rfl rfl rfl (skipT hb46) rfl rfl ?_
        refine TO.skip rfl rfl rfl (skipT hb46) rfl rfl ?_
        refine TO.skip rfl rfl rfl (skipT hb46) rfl rfl ?_
        refine TO.skip rfl rfl rfl (skipT hb46) rfl rfl ?_
        refine TO.skip rfl rfl rfl (skipT hb46) rfl rfl ?_
        refine TO.s rfl rfl rfl (StepS.pickT rfl hb46 rfl) ?_
        exact TO.up1 8 0 rfl rfl (by rw [hb46]; rfl) rfl
      · refine TO.sw rfl rfl rfl hb46 rfl rfl (StepS.fld rfl kfieldB_26_1_1_true) ?_
        refine TO.sw rfl rfl rfl hb46 rfl rfl (StepS.ldB rfl (Ent.at 3 rfl) kscalB_24_true rfl) ?_
        refine TO.sw rfl rfl rfl hb46 rfl rfl (StepS.lenRR rfl (SS.rr (Ent.at 6 rfl)) ksliceB_24_34_1_true rfl) ?_
        refine TO.sw rfl rfl rfl hb46 rfl rfl (StepS.fld rfl kfieldB_26_1_1_true) ?_
        refine TO.sw rfl rfl rfl hb46 rfl rfl (StepS.ldB rfl (Ent.at 2 rfl) kscalB_24_true rfl) ?_
        refine TO.sw rfl rfl rfl hb46 rfl rfl (StepS.lenRR rfl (SS.rr (Ent.at 1 rfl)) ksliceB_24_34_1_true rfl) ?_
        refine TO.sw rfl rfl rfl hb46 rfl rfl (StepS.cmp rfl rfl rfl) ?_
        refine TO.s rfl rfl rfl (StepS.pickF rfl hb46 rfl) ?_
        exact TO.up1 8 0 rfl rfl (by rw [hb46]; rfl) rfl
    refine TO.code ?_
    refine TC.cond rfl (fun hc47 => ?_) (fun hc47 => ?_)
    · replace hm := cond_t hc47 hm
      refine TC.k ?_
      refine TC.region ?_
      refine TO.s rfl rfl rfl (StepS.assign rfl) ?_
      refine TO.code ?_
      cases hm
      refine TC.ret fun a w e s => ?_
      refine FRet.mk1 (P := Try.prog) (fn := Try.f3) (t := 4) e rfl rfl ?_
      exact ⟨rfl, s.mono fun _ => Sat.dropN 7⟩
    · replace hm := cond_f hc47 hm
      refine TC.skipk ?_
      refine TC.k ?_
      refine TC.k ?_
      refine TC.region ?_
      refine TO.s rfl rfl rfl (StepS.assign rfl) ?_
      refine TO.code ?_
      obtain ⟨o50, hw51, hm⟩ := bind_some hm
      refine TC.loop hw51 (fun x48 => fun a w => Mid 65 B [(5, .pointer (some ⟨b10, 0, none⟩)), (8, .pointer (some ⟨b15, 0, none⟩)), (9, I x48)] (OwnS 27 1 v16 (y18.map cI) :: SS 34 44 2 (cZ44 zs) v19 hs20 (y22) :: Bx b15 26 [v16, v19] :: Bx b10 26 [v5, v7] :: PZ 3 1 cI z0 zs y23 :: OwnS 27 1 v5 (r1.1.map cI) :: SS 34 44 2 (cZ44 zs) v7 hs8 (r1.2) :: L) a w) (fun _ => fun a w => Mid 65 B [] (OwnS 27 1 v16 (y18.map cI) :: SS 34 44 2 (cZ44 zs) v19 hs20 (y22) :: Bx b15 26 [v16, v19] :: Bx b10 26 [v5, v7] :: PZ 3 1 cI z0 zs y23 :: OwnS 27 1 v5 (r1.1.map cI) :: SS 34 44 2 (cZ44 zs) v7 hs8 (r1.2) :: L) a w) (fun r0 => FRet Try.prog Try.f3 (fun e w' => (e = .returned (.bool r0) ∧ St B (L) w'))) ?_ ?_ ?_ ?_
      · rintro x48 o50r hb52 a w ⟨he, hs⟩
        dsimp only [F3_L0] at hb52
        refine TC.use ?_ he hs
        refine TC.k ?_
        refine TC.k ?_
        refine TC.region ?_
        refine TO.s rfl rfl rfl (StepS.move rfl) ?_
        refine TO.s rfl rfl rfl (StepS.fld rfl kfieldB_26_1_1_true) ?_
        refine TO.s rfl rfl rfl (StepS.ldB rfl (Ent.at 3 rfl) kscalB_24_true rfl) ?_
        refine TO.s rfl rfl rfl (StepS.lenRR rfl (SS.rr (Ent.at 6 rfl)) ksliceB_24_34_1_true rfl) ?_
        refine TO.s rfl rfl rfl (StepS.cmp rfl rfl rfl) ?_
        refine TO.code ?_
        refine TC.cond rfl (fun hc53 => ?_) (fun hc53 => ?_)
        · replace hb52 := cond_t hc53 hb52
          refine TC.skipk ?_
          refine TC.k ?_
          refine TC.block ?_
          refine TC.k ?_
          refine TC.region_quiet kfollows_mixedOrders_true (by kernel_rfl) ?_
          refine TQ.s rfl rfl rfl (StepS.fld rfl kfieldB_26_1_1_true).q ?_
          refine TQ.s rfl rfl rfl (StepS.ldB rfl (Ent.at 3 rfl) kscalB_24_true rfl).q ?_
          refine TQ.s rfl rfl rfl (StepS.move rfl).q ?_
          obtain ⟨x54, hx55, hb52⟩ := bind_some hb52
          refine TQ.s rfl rfl rfl (StepS.idxRR rfl rfl (SS.rr (Ent.at 6 rfl)) ksliceB_24_34_1_true hx55).q ?_
          refine TQ.s rfl rfl rfl (StepS.ldRR rfl (SS.rr (Ent.at 6 rfl)) kscalB_34_true hx55).q ?_
          refine TQ.s rfl rfl rfl (StepS.fld rfl kfieldB_26_1_1_true).q ?_
          refine TQ.s rfl rfl rfl (StepS.ldB rfl (Ent.at 2 rfl) kscalB_24_true rfl).q ?_
          refine TQ.s rfl rfl rfl (StepS.move rfl).q ?_
          obtain ⟨x57, hx58, hb52⟩ := bind_some hb52
          refine TQ.s rfl rfl rfl (StepS.idxRR rfl rfl (SS.rr (Ent.at 1 rfl)) ksliceB_24_34_1_true hx58).q ?_
          refine TQ.s rfl rfl rfl (StepS.ldRR rfl (SS.rr (Ent.at 1 rfl)) kscalB_34_true hx58).q ?_
          obtain ⟨r60, hc61, hb52⟩ := bind_some hb52
          refine TQ.s rfl rfl rfl (StepQ.call kcallB_8_true rfl rfl (fun _ st => C8 (zs := zs) (RR.row (SS.rr (Ent.at 6 rfl)) hx55) (RR.row (SS.rr (Ent.at 1 rfl)) hx58) (Ent.at 4 rfl) hc61 st)) ?_
          refine TQ.s rfl rfl rfl (StepS.not rfl).q ?_
          refine TQ.code ?_
          refine TC.cond rfl (fun hc62 => ?_) (fun hc62 => ?_)
          · replace hb52 := cond_t hc62 hb52
            refine TC.k ?_
            refine TC.region ?_
            refine TO.s rfl rfl rfl (StepS.assign rfl) ?_
            refine TO.code ?_
            cases hb52
            refine TC.ret fun a w e s => ?_
            refine FRet.mk1 (P := Try.prog) (fn := Try.f3) (t := 4) e rfl rfl ?_
            exact ⟨rfl, s.mono fun _ => Sat.dropN 7⟩
          · replace hb52 := cond_f hc62 hb52
            refine TC.skipk ?_
            refine TC.region ?_
            refine TO.s rfl rfl rfl (StepS.move rfl) ?_
            refine TO.s rfl rfl rfl (StepS.ari rfl rfl rfl) ?_
            refine TO.s rfl rfl rfl (StepS.assign rfl) ?_
            cases hb52
            refine TO.nil fun a w e s => ?_
            exact ⟨e.sub (lk_of_allIn ⟨rfl, rfl, rfl, trivial⟩), s⟩
        · replace hb52 := cond_f hc53 hb52
          cases hb52
          refine TC.exit rfl fun a w e s => ?_
          exact ⟨e.sub (lk_of_allIn trivial), s⟩
      · exact fun a w e s => ⟨e.sub (lk_of_allIn ⟨rfl, rfl, rfl, trivial⟩), s⟩
      · rintro _ rfl a w ⟨he, hs⟩
        dsimp only [Ctl.on] at hm
        refine TC.use ?_ he hs
        refine TC.k ?_
        refine TC.region ?_
        refine TO.s rfl rfl rfl (StepS.assign rfl) ?_
        refine TO.code ?_
        cases hm
        refine TC.ret fun a w e s => ?_
        refine FRet.mk1 (P := Try.prog) (fn := Try.f3) (t := 4) e rfl rfl ?_
        exact ⟨rfl, s.mono fun _ => Sat.dropN 7⟩
      · rintro r rfl
        cases hm
        exact fun a w h => h
end Go.Proofs.Ytgofkfhkolkfmaa
