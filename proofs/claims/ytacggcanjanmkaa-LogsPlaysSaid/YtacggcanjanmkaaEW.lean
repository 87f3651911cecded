/-
  The walks: each Go function returns what its model says. Written by a program (gen.py).
-/
import Derived.Test.YtacggcanjanmkaaProg
import Derived.KernelRfl
import Derived.Test.YtacggcanjanmkaaAW
import Derived.Test.YtacggcanjanmkaaBW
import Derived.Test.YtacggcanjanmkaaCW
import Derived.Test.YtacggcanjanmkaaDW
import Derived.Test.YtacggcanjanmkaaEM
namespace Go.Proofs.Ytacggcanjanmkaa
open Go Go.Bk
set_option linter.unusedVariables false
set_option linter.unnecessarySimpa false
theorem kfieldB_59_0_0_true : fieldB Try.prog 59 0 0 = true := by kernel_rfl
theorem kscalB_56_true : scalB Try.prog 56 = true := by kernel_rfl
theorem kelemB_56_61_8_128_true : elemB Try.prog 56 61 8 128 = true := by kernel_rfl
theorem kinfo_61_bind_zero_some_agg_I_0_I_0_I_0_slice_none_0_0_slice_none_0_0_I_0_slice_none_0_0_slice_none_0_0 : (Try.prog.info? 61).bind (·.zero) = some (.agg #[I 0, I 0, I 0, .slice none 0 0, .slice none 0 0, I 0, .slice none 0 0, .slice none 0 0]) := by kernel_rfl
theorem ksizeB_56_1_true : sizeB Try.prog 56 1 = true := by kernel_rfl
theorem ksliceB_56_61_8_true : sliceB Try.prog 56 61 8 = true := by kernel_rfl
theorem kfieldB_61_3_3_true : fieldB Try.prog 61 3 3 = true := by kernel_rfl
theorem kcallB_33_true : callB Try.prog 33 = true := by kernel_rfl
theorem kfieldB_61_1_1_true : fieldB Try.prog 61 1 1 = true := by kernel_rfl
theorem kfieldB_59_1_1_true : fieldB Try.prog 59 1 1 = true := by kernel_rfl
theorem kfieldB_61_0_0_true : fieldB Try.prog 61 0 0 = true := by kernel_rfl
theorem kfieldB_61_6_6_true : fieldB Try.prog 61 6 6 = true := by kernel_rfl
theorem kfieldB_61_7_7_true : fieldB Try.prog 61 7 7 = true := by kernel_rfl
theorem kfieldB_61_4_4_true : fieldB Try.prog 61 4 4 = true := by kernel_rfl
theorem kfieldB_61_2_2_true : fieldB Try.prog 61 2 2 = true := by kernel_rfl
theorem kcallB_24_true : callB Try.prog 24 = true := by kernel_rfl
theorem kcallB_25_true : callB Try.prog 25 = true := by kernel_rfl
theorem kcallB_26_true : callB Try.prog 26 = true := by kernel_rfl
theorem kcallB_27_true : callB Try.prog 27 = true := by kernel_rfl
theorem kfieldB_61_5_5_true : fieldB Try.prog 61 5 5 = true := by kernel_rfl

set_option maxRecDepth 100000 in
theorem C15 {B : World} {L : List HP} {a0 : Int} {r0 : (List (Int × Int × Int × (List Int) × (List (Int × Int)) × Int × (List Int) × List Int)) × List (Int × Int)} (hm : F15 a0 = some r0) {w : World} (st : St B L w) : Calls Try.prog 15 #[I a0] w (fun e w' => ∃ v M, e = .returned v ∧ (∃ (qb4 : Nat) (qv1 : Value) (qhs2 : List (List Value)) (qv3 : Value), v = .pointer (some ⟨qb4, 0, none⟩) ∧ M = (Bx qb4 59 [qv1, qv3] :: SN 61 8 nT61 qv1 qhs2 (r0.1) :: OwnS 79 2 qv3 (r0.2.map cTii) :: L)) ∧ St B M w') := by
  refine calls_of (N := 23) (L := L) (args := [I a0]) Try.func15 rfl rfl rfl ?_ st
  dsimp only [F15] at hm
  refine TC.k ?_
  refine TC.region ?_
  refine TO.s rfl rfl rfl (StepS.assign rfl) ?_
  refine TO.code ?_
  refine TC.k ?_
  refine TC.region ?_
  refine TO.s rfl rfl rfl (StepS.build (cs := [.slice none 0 0, .slice none 0 0]) rfl (by kernel_rfl)) ?_
  refine TO.box (cs := [.slice none 0 0, .slice none 0 0]) rfl rfl rfl fun b3 => ?_
  refine TO.s rfl rfl rfl (StepS.assign rfl) ?_
  refine TO.code ?_
  refine TC.k ?_
  refine TC.k ?_
  refine TC.region ?_
  refine TO.s rfl rfl rfl (StepS.assign rfl) ?_
  refine TO.code ?_
  obtain ⟨o18, hw19, hm⟩ := bind_some hm
  refine TC.loop hw19 (fun (y7, x8) => fun a w => ∃ v4 : Value, ∃ hs5 : List (List Value), Mid 23 B [(0, I a0), (3, .pointer (some ⟨b3, 0, none⟩)), (4, I x8)] (SN 61 8 nT61 v4 hs5 (y7) :: Bx b3 59 [v4, .slice none 0 0] :: L) a w) (fun y17 => fun a w => ∃ v14 : Value, ∃ hs15 : List (List Value), Mid 23 B [(3, .pointer (some ⟨b3, 0, none⟩))] (SN 61 8 nT61 v14 hs15 (y17) :: Bx b3 59 [v14, .slice none 0 0] :: L) a w) (fun (_ : Unit) _ _ => False) ?_ ?_ ?_ ?_
  · rintro ⟨y7, x8⟩ o18r hb20 a w ⟨v4, hs5, he, hs⟩
    dsimp only [F15_L0] at hb20
    refine TC.use ?_ he hs
    refine TC.k ?_
    refine TC.k ?_
    refine TC.region ?_
    refine TO.s rfl rfl rfl (StepS.move rfl) ?_
    refine TO.s rfl rfl rfl (StepS.move rfl) ?_
    refine TO.s rfl rfl rfl (StepS.cmp rfl rfl rfl) ?_
    refine TO.code ?_
    refine TC.cond rfl (fun hc21 => ?_) (fun hc21 => ?_)
    · replace hb20 := cond_t hc21 hb20
      refine TC.skipk ?_
      refine TC.k ?_
      refine TC.block ?_
      refine TC.region ?_
      refine TO.s rfl rfl rfl (StepS.move rfl) ?_
      refine TO.s rfl rfl rfl (StepS.move rfl) ?_
      refine TO.s rfl rfl rfl (StepS.nilc rfl) ?_
      refine TO.s rfl rfl rfl (StepS.fld rfl kfieldB_59_0_0_true) ?_
      refine TO.s rfl rfl rfl (StepS.ldB rfl (Ent.at 1 rfl) kscalB_56_true rfl) ?_
      refine TO.s rfl rfl rfl (StepS.build (cs := [I 0, I 0, I (-1), .slice none 0 0, .slice none 0 0, I 0, .slice none 0 0, .slice none 0 0]) rfl (by kernel_rfl)) ?_
      refine TO.litS (f := fun (_ : Unit) => [I 0, I 0, I (-1), .slice none 0 0, .slice none 0 0, I 0, .slice none 0 0, .slice none 0 0]) [()] kelemB_56_61_8_128_true kinfo_61_bind_zero_some_agg_I_0_I_0_I_0_slice_none_0_0_slice_none_0_0_I_0_slice_none_0_0_slice_none_0_0 rfl rfl (fun _ => rfl) rfl rfl (by kernel_rfl) rfl fun v22 => ?_
      refine TO.ghost (fun _ => Sat.nilS (e := 3) (sz := 1) (f := cI)) ?_
      refine TO.ghost (fun _ => Sat.nilS (e := 52) (sz := 2) (f := cTii)) ?_
      refine TO.ghost (fun _ => Sat.nilS (e := 3) (sz := 1) (f := cI)) ?_
      refine TO.ghost (fun _ => Sat.nilS (e := 3) (sz := 1) (f := cI)) ?_
      refine TO.pure (fun _ s => Rd.one (OwnS.rd (Ent.at 3 rfl)) s) fun oc28 => ?_
      refine TO.pure (fun _ s => Rd.one (OwnS.rd (Ent.at 2 rfl)) s) fun oc29 => ?_
      refine TO.pure (fun _ s => Rd.one (OwnS.rd (Ent.at 1 rfl)) s) fun oc30 => ?_
      refine TO.pure (fun _ s => Rd.one (OwnS.rd (Ent.at 0 rfl)) s) fun oc31 => ?_
      refine TO.ghost (fun _ s => Sat.front 5 rfl s) ?_
      refine TO.ghost (fun _ s => Sat.front 1 rfl s) ?_
      refine TO.ghost (fun _ s => Sat.front 2 rfl s) ?_
      refine TO.ghost (fun _ s => Sat.front 3 rfl s) ?_
      refine TO.ghost (fun _ s => Sat.front 4 rfl s) ?_
      obtain ⟨y32, hk33, hb20⟩ := bind_some hb20
      refine TO.appN (T := nT61) (z := (0, 0, (-1), ([] : List (Int)), ([] : List (Int × Int)), 0, ([] : List (Int)), ([] : List (Int)))) [(.slice none 0 0), (.slice none 0 0), (.slice none 0 0), (.slice none 0 0)] rfl kelemB_56_61_8_128_true (by decide) rfl rfl (OwnS.rd (Ent.at 0 rfl)) hk33 (by intro u hu; have hu : u ∈ [I 0, I 0, I (-1), (.slice none 0 0), (.slice none 0 0), I 0, (.slice none 0 0), (.slice none 0 0)] := hu; simp only [List.mem_cons, List.not_mem_nil, or_false] at hu; rcases hu with rfl | rfl | rfl | rfl | rfl | rfl | rfl | rfl <;> first | rfl | exact oc28.1 | exact oc29.1 | exact oc30.1 | exact oc31.1) rfl rfl fun v34 hs35 => ?_
      refine TO.ghost (fun _ s => Sat.erase 1 s) ?_
      refine TO.s rfl rfl rfl (StepS.nilc rfl) ?_
      refine TO.s rfl rfl rfl (StepS.fld rfl kfieldB_59_0_0_true) ?_
      refine TO.pure (fun _ s => Rd.one (SN.top (Ent.at 0 rfl)) s) fun oc36 => ?_
      refine TO.stB (us := [v34]) 1 [v34, .slice none 0 0] rfl rfl rfl ksizeB_56_1_true oc36.2 rfl rfl (by intro u hu; simp only [List.mem_cons, List.not_mem_nil, or_false] at hu; rcases hu with rfl <;> first | exact oc36.1 | rfl) rfl ?_
      refine TO.code ?_
      refine TC.region ?_
      refine TO.s rfl rfl rfl (StepS.move rfl) ?_
      refine TO.s rfl rfl rfl (StepS.ari rfl rfl rfl) ?_
      refine TO.s rfl rfl rfl (StepS.assign rfl) ?_
      cases hb20
      refine TO.nil fun a w e s => ?_
      exact ⟨v34, hs35, e.sub (lk_of_allIn ⟨rfl, rfl, rfl, trivial⟩), s⟩
    · replace hb20 := cond_f hc21 hb20
      cases hb20
      refine TC.exit rfl fun a w e s => ?_
      exact ⟨v4, hs5, e.sub (lk_of_allIn ⟨rfl, trivial⟩), s⟩
  · exact fun a w e s => ⟨.slice none 0 0, [], e.sub (lk_of_allIn ⟨rfl, rfl, rfl, trivial⟩), s.mono fun _ s => (by replace s := Sat.nilSN (e := 61) (sz := 8) (T := nT61) s; exact Sat.by [1, 1] 2 0 (by kernel_rfl) s)⟩
  · rintro y17 rfl a w ⟨v14, hs15, he, hs⟩
    dsimp only [Ctl.on] at hm
    refine TC.use ?_ he hs
    refine TC.k ?_
    refine TC.region ?_
    refine TO.s rfl rfl rfl (StepS.move rfl) ?_
    refine TO.s rfl rfl rfl (StepS.assign rfl) ?_
    refine TO.code ?_
    cases hm
    refine TC.ret fun a w e s => ?_
    refine FRet.mk1 (P := Try.prog) (fn := Try.f15) (t := 2) e rfl rfl ?_
    refine ⟨_, _, rfl, ⟨b3, (v14), (hs15), (.slice none 0 0), rfl, rfl⟩, ?_⟩
    refine s.mono fun _ s => ?_
    replace s := Sat.nilS (e := 79) (sz := 2) (f := cTii) s
    replace s := Sat.front 1 rfl s
    replace s := Sat.front 2 rfl s
    exact s
  · rintro r rfl
    exact fun a w h => h.elim

set_option maxRecDepth 100000 in
theorem C24 {B : World} {L : List HP} {a0 : Int} {a1 : Int × Int × Int × Int} {a2 : Bool} {r0 : Bool} (hm : F24 a0 a1 a2 = some r0) {w : World} (st : St B L w) : Calls Try.prog 24 #[I a0, .agg (cTiiii a1).toArray, .bool a2] w (fun e w' => (e = .returned (.bool r0) ∧ St B (L) w')) := by
  refine calls_of (N := 36) (L := L) (args := [I a0, .agg (cTiiii a1).toArray, .bool a2]) Try.func24 rfl rfl rfl ?_ st
  dsimp only [F24] at hm
  refine TC.k ?_
  refine TC.region ?_
  refine TO.box (cs := [I a1.1, I a1.2.1, I a1.2.2.1, I a1.2.2.2]) rfl rfl rfl fun b1 => ?_
  refine TO.s rfl rfl rfl (StepS.assign rfl) ?_
  refine TO.code ?_
  refine TC.k ?_
  refine TC.k ?_
  refine TC.region ?_
  refine TO.s rfl rfl rfl (StepS.fld rfl kfieldB_45_1_1_true) ?_
  refine TO.s rfl rfl rfl (StepS.ldB rfl (Ent.at 0 rfl) kscalB_3_true rfl) ?_
  refine TO.s rfl rfl rfl (StepS.cmp rfl rfl rfl) ?_
  refine TO.s rfl rfl rfl (StepS.move rfl) ?_
  refine TO.mid1 5 15 (.bool ((decide (a1.2.1 < 0)) || (decide (a1.2.1 ≥ a0)))) ?_ ?_
  · refine bcase ((decide (a1.2.1 < 0))) (fun hb2 => ?_) (fun hb2 => ?_)
    · refine TO.skip rfl rfl rfl (skipT hb2) rfl rfl ?_
      refine TO.skip rfl rfl rfl (skipT hb2) rfl rfl ?_
      refine TO.skip rfl rfl rfl (skipT hb2) rfl rfl ?_
      refine TO.skip rfl rfl rfl (skipT hb2) rfl rfl ?_
      refine TO.s rfl rfl rfl (StepS.pickT rfl hb2 rfl) ?_
      exact TO.up1 5 0 rfl rfl (by rw [hb2]; rfl) rfl
    · refine TO.sw rfl rfl rfl hb2 rfl rfl (StepS.fld rfl kfieldB_45_1_1_true) ?_
      refine TO.sw rfl rfl rfl hb2 rfl rfl (StepS.ldB rfl (Ent.at 0 rfl) kscalB_3_true rfl) ?_
      refine TO.sw rfl rfl rfl hb2 rfl rfl (StepS.move rfl) ?_
      refine TO.sw rfl rfl rfl hb2 rfl rfl (StepS.cmp rfl rfl rfl) ?_
      refine TO.s rfl rfl rfl (StepS.pickF rfl hb2 rfl) ?_
      exact TO.up1 5 0 rfl rfl (by rw [hb2]; rfl) rfl
  refine TO.code ?_
  refine TC.cond rfl (fun hc3 => ?_) (fun hc3 => ?_)
  · replace hm := cond_t hc3 hm
    refine TC.k ?_
    refine TC.region ?_
    refine TO.s rfl rfl rfl (StepS.assign rfl) ?_
    refine TO.code ?_
    cases hm
    refine TC.ret fun a w e s => ?_
    refine FRet.mk1 (P := Try.prog) (fn := Try.f24) (t := 6) e rfl rfl ?_
    exact ⟨rfl, s.mono fun _ => Sat.dropN 1⟩
  · replace hm := cond_f hc3 hm
    refine TC.skipk ?_
    refine TC.k ?_
    refine TC.region ?_
    refine TO.s rfl rfl rfl (StepS.move rfl) ?_
    refine TO.s rfl rfl rfl (StepS.not rfl) ?_
    refine TO.s rfl rfl rfl (StepS.move rfl) ?_
    refine TO.mid1 17 35 (.bool ((!a2) || (((decide (a1.2.2.1 ≥ 0)) && (decide (a1.2.2.1 < a0))) && (a1.2.2.1 != a1.2.1)))) ?_ ?_
    · refine bcase ((!a2)) (fun hb4 => ?_) (fun hb4 => ?_)
      · refine TO.skip rfl rfl rfl (skipT hb4) rfl rfl ?_
        refine TO.skip rfl rfl rfl (skipT hb4) rfl rfl ?_
        refine TO.skip rfl rfl rfl (skipT hb4) rfl rfl ?_
        refine TO.skip rfl rfl rfl (skipT hb4) rfl rfl ?_
        refine TO.skip rfl rfl rfl skipU rfl rfl ?_
        refine TO.skip rfl rfl rfl skipU rfl rfl ?_
        refine TO.skip rfl rfl rfl skipU rfl rfl ?_
        refine TO.skip rfl rfl rfl skipU rfl rfl ?_
        refine TO.skip rfl rfl rfl (skipT hb4) rfl rfl ?_
        refine TO.skip rfl rfl rfl (skipT hb4) rfl rfl ?_
        refine TO.skip rfl rfl rfl skipU rfl rfl ?_
        refine TO.skip rfl rfl rfl skipU rfl rfl ?_
        refine TO.skip rfl rfl rfl skipU rfl rfl ?_
        refine TO.skip rfl rfl rfl skipU rfl rfl ?_
        refine TO.skip rfl rfl rfl skipU rfl rfl ?_
        refine TO.skip rfl rfl rfl (skipT hb4) rfl rfl ?_
        refine TO.s rfl rfl rfl (StepS.pickT rfl hb4 rfl) ?_
        exact TO.up1 17 0 rfl rfl (by rw [hb4]; rfl) rfl
      · refine TO.sw rfl rfl rfl hb4 rfl rfl (StepS.fld rfl kfieldB_45_2_2_true) ?_
        refine TO.sw rfl rfl rfl hb4 rfl rfl (StepS.ldB rfl (Ent.at 0 rfl) kscalB_3_true rfl) ?_
        refine TO.sw rfl rfl rfl hb4 rfl rfl (StepS.cmp rfl rfl rfl) ?_
        refine TO.sw rfl rfl rfl hb4 rfl rfl (StepS.move rfl) ?_
        refine TO.mid1 5 27 (.bool ((decide (a1.2.2.1 ≥ 0)) && (decide (a1.2.2.1 < a0)))) ?_ ?_
        · refine bcase ((decide (a1.2.2.1 ≥ 0))) (fun hb5 => ?_) (fun hb5 => ?_)
          · refine TO.sw rfl rfl rfl hb5 rfl rfl (StepS.fld rfl kfieldB_45_2_2_true) ?_
            refine TO.sw rfl rfl rfl hb5 rfl rfl (StepS.ldB rfl (Ent.at 0 rfl) kscalB_3_true rfl) ?_
            refine TO.sw rfl rfl rfl hb5 rfl rfl (StepS.move rfl) ?_
            refine TO.sw rfl rfl rfl hb5 rfl rfl (StepS.cmp rfl rfl rfl) ?_
            refine TO.sw rfl rfl rfl hb4 rfl rfl (StepS.pickT rfl hb5 rfl) ?_
            exact TO.up1 5 0 rfl rfl (by rw [hb5]; rfl) rfl
          · refine TO.skip rfl rfl rfl (skipF hb5) rfl rfl ?_
            refine TO.skip rfl rfl rfl (skipF hb5) rfl rfl ?_
            refine TO.skip rfl rfl rfl (skipF hb5) rfl rfl ?_
            refine TO.skip rfl rfl rfl (skipF hb5) rfl rfl ?_
            refine TO.sw rfl rfl rfl hb4 rfl rfl (StepS.pickF rfl hb5 rfl) ?_
            exact TO.up1 5 0 rfl rfl (by rw [hb5]; rfl) rfl
        refine TO.sw rfl rfl rfl hb4 rfl rfl (StepS.move rfl) ?_
        refine TO.mid1 6 34 (.bool (((decide (a1.2.2.1 ≥ 0)) && (decide (a1.2.2.1 < a0))) && (a1.2.2.1 != a1.2.1))) ?_ ?_
        · refine bcase (((decide (a1.2.2.1 ≥ 0)) && (decide (a1.2.2.1 < a0)))) (fun hb6 => ?_) (fun hb6 => ?_)
          · refine TO.sw rfl rfl rfl hb6 rfl rfl (StepS.fld rfl kfieldB_45_2_2_true) ?_
            refine TO.sw rfl rfl rfl hb6 rfl rfl (StepS.ldB rfl (Ent.at 0 rfl) kscalB_3_true rfl) ?_
            refine TO.sw rfl rfl rfl hb6 rfl rfl (StepS.fld rfl kfieldB_45_1_1_true) ?_
            refine TO.sw rfl rfl rfl hb6 rfl rfl (StepS.ldB rfl (Ent.at 0 rfl) kscalB_3_true rfl) ?_
            refine TO.sw rfl rfl rfl hb6 rfl rfl (StepS.cmp rfl rfl rfl) ?_
            refine TO.sw rfl rfl rfl hb4 rfl rfl (StepS.pickT rfl hb6 rfl) ?_
            exact TO.up1 6 0 rfl rfl (by rw [hb6]; rfl) rfl
          · refine TO.skip rfl rfl rfl (skipF hb6) rfl rfl ?_
            refine TO.skip rfl rfl rfl (skipF hb6) rfl rfl ?_
            refine TO.skip rfl rfl rfl (skipF hb6) rfl rfl ?_
            refine TO.skip rfl rfl rfl (skipF hb6) rfl rfl ?_
            refine TO.skip rfl rfl rfl (skipF hb6) rfl rfl ?_
            refine TO.sw rfl rfl rfl hb4 rfl rfl (StepS.pickF rfl hb6 rfl) ?_
            exact TO.up1 6 0 rfl rfl (by rw [hb6]; rfl) rfl
        refine TO.s rfl rfl rfl (StepS.pickF rfl hb4 rfl) ?_
        exact TO.up1 8 0 rfl rfl (by rw [hb4]; rfl) rfl
    refine TO.s rfl rfl rfl (StepS.assign rfl) ?_
    refine TO.code ?_
    cases hm
    refine TC.ret fun a w e s => ?_
    refine FRet.mk1 (P := Try.prog) (fn := Try.f24) (t := 6) e rfl rfl ?_
    exact ⟨rfl, s.mono fun _ => Sat.dropN 1⟩

set_option maxRecDepth 100000 in
theorem C33 {B : World} {L : List HP} {a0 : List Int} {a1 : Int} {h0 : Value} {r0 : Bool} (e0 : Ent L (Rd 1 h0 (a0.map cI))) (hm : F33 a0 a1 = some r0) {w : World} (st : St B L w) : Calls Try.prog 33 #[h0, I a1] w (fun e w' => (e = .returned (.bool r0) ∧ St B (L) w')) := by
  refine calls_of (N := 17) (L := L) (args := [h0, I a1]) Try.func33 rfl rfl rfl ?_ st
  dsimp only [F33] at hm
  refine TC.k ?_
  refine TC.region ?_
  refine TO.s rfl rfl rfl (StepS.assign rfl) ?_
  refine TO.code ?_
  refine TC.k ?_
  refine TC.k ?_
  refine TC.region ?_
  refine TO.s rfl rfl rfl (StepS.move rfl) ?_
  refine TO.s rfl rfl rfl (StepS.lenm rfl e0 ksliceB_24_3_1_true rfl) ?_
  refine TO.s rfl rfl rfl (StepS.move rfl) ?_
  refine TO.code ?_
  obtain ⟨o3, hw4, hm⟩ := bind_some hm
  refine TC.loop hw4 (fun x1 => fun a w => Mid 17 B [(1, I a1), (7, h0), (8, I (a0.length : Int)), (9, I x1)] (L) a w) (fun _ => fun a w => Mid 17 B [] (L) a w) (fun r0 => FRet Try.prog Try.f33 (fun e w' => (e = .returned (.bool r0) ∧ St B (L) w'))) ?_ ?_ ?_ ?_
  · rintro x1 o3r hb5 a w ⟨he, hs⟩
    dsimp only [F33_L0] at hb5
    refine TC.use ?_ he hs
    refine TC.k ?_
    refine TC.region ?_
    refine TO.s rfl rfl rfl (StepS.cmp rfl rfl rfl) ?_
    refine TO.code ?_
    refine TC.k ?_
    refine TC.cond rfl (fun hc6 => ?_) (fun hc6 => ?_)
    · replace hb5 := cond_t hc6 hb5
      refine TC.skipk ?_
      refine TC.k ?_
      refine TC.block ?_
      refine TC.k ?_
      refine TC.region ?_
      obtain ⟨x7, hx8, hb5⟩ := bind_some hb5
      refine TO.s rfl rfl rfl (StepS.idx rfl rfl e0 ksliceB_24_3_1_true (idx_spec hx8).1 (idxm_lt hx8)) ?_
      refine TO.s rfl rfl rfl (StepS.ld0 rfl e0 kscalB_3_true rfl (idxm hx8) rfl) ?_
      refine TO.s rfl rfl rfl (StepS.assign rfl) ?_
      refine TO.code ?_
      refine TC.k ?_
      refine TC.region ?_
      refine TO.s rfl rfl rfl (StepS.move rfl) ?_
      refine TO.s rfl rfl rfl (StepS.move rfl) ?_
      refine TO.s rfl rfl rfl (StepS.cmp rfl rfl rfl) ?_
      refine TO.code ?_
      refine TC.cond rfl (fun hc9 => ?_) (fun hc9 => ?_)
      · replace hb5 := cond_t hc9 hb5
        refine TC.k ?_
        refine TC.region ?_
        refine TO.s rfl rfl rfl (StepS.assign rfl) ?_
        refine TO.code ?_
        cases hb5
        refine TC.ret fun a w e s => ?_
        refine FRet.mk1 (P := Try.prog) (fn := Try.f33) (t := 4) e rfl rfl ?_
        exact ⟨rfl, s.mono fun _ => Sat.dropN 0⟩
      · replace hb5 := cond_f hc9 hb5
        refine TC.skipk ?_
        refine TC.region ?_
        refine TO.s rfl rfl rfl (StepS.ari rfl rfl rfl) ?_
        refine TO.s rfl rfl rfl (StepS.move rfl) ?_
        cases hb5
        refine TO.nil fun a w e s => ?_
        exact ⟨e.sub (lk_of_allIn ⟨rfl, rfl, rfl, rfl, trivial⟩), s⟩
    · replace hb5 := cond_f hc6 hb5
      cases hb5
      refine TC.exit rfl fun a w e s => ?_
      exact ⟨e.sub (lk_of_allIn trivial), s⟩
  · exact fun a w e s => ⟨e.sub (lk_of_allIn ⟨rfl, rfl, rfl, rfl, trivial⟩), s⟩
  · rintro _ rfl a w ⟨he, hs⟩
    dsimp only [Ctl.on] at hm
    refine TC.use ?_ he hs
    refine TC.k ?_
    refine TC.region ?_
    refine TO.s rfl rfl rfl (StepS.assign rfl) ?_
    refine TO.code ?_
    cases hm
    refine TC.ret fun a w e s => ?_
    refine FRet.mk1 (P := Try.prog) (fn := Try.f33) (t := 4) e rfl rfl ?_
    exact ⟨rfl, s.mono fun _ => Sat.dropN 0⟩
  · rintro r rfl
    cases hm
    exact fun a w h => h

set_option maxRecDepth 100000 in
theorem C25 {B : World} {L : List HP} {a0 : (List (Int × Int × Int × (List Int) × (List (Int × Int)) × Int × (List Int) × List Int)) × List (Int × Int)} {a1 : Int} {a2 : Int} {b0_ : Nat} {h0_1 : Value} {h0_2 : List (List Value)} {h0_3 : Value} {s0 : (List (Int × Int × Int × (List Int) × (List (Int × Int)) × Int × (List Int) × List Int)) × List (Int × Int)} (hm : F25 a0 a1 a2 = some s0) {w : World} (st : St B (Bx b0_ 59 [h0_1, h0_3] :: SN 61 8 nT61 h0_1 h0_2 (a0.1) :: OwnS 79 2 h0_3 (a0.2.map cTii) :: L) w) : Calls Try.prog 25 #[.pointer (some ⟨b0_, 0, none⟩), I a1, I a2] w (fun e w' => ∃ v M, e = .returned v ∧ (∃ (qhs1 : List (List Value)) (qv2 : Value), v = .tuple #[] ∧ M = (Bx b0_ 59 [h0_1, qv2] :: SN 61 8 nT61 h0_1 qhs1 (s0.1) :: OwnS 79 2 qv2 (s0.2.map cTii) :: L)) ∧ St B M w') := by
  refine calls_of (N := 106) (L := (Bx b0_ 59 [h0_1, h0_3] :: SN 61 8 nT61 h0_1 h0_2 (a0.1) :: OwnS 79 2 h0_3 (a0.2.map cTii) :: L)) (args := [.pointer (some ⟨b0_, 0, none⟩), I a1, I a2]) Try.func25 rfl rfl rfl ?_ st
  dsimp only [F25] at hm
  refine TC.k ?_
  refine TC.region ?_
  refine TO.s rfl rfl rfl (StepS.move rfl) ?_
  refine TO.s rfl rfl rfl (StepS.nilc rfl) ?_
  refine TO.s rfl rfl rfl (StepS.fld rfl kfieldB_59_0_0_true) ?_
  refine TO.s rfl rfl rfl (StepS.ldB rfl (Ent.at 0 rfl) kscalB_56_true rfl) ?_
  refine TO.s rfl rfl rfl (StepS.move rfl) ?_
  obtain ⟨x5, hx6, hm⟩ := bind_some hm
  refine TO.s rfl rfl rfl (StepS.idxN rfl rfl (Ent.at 1 rfl) ksliceB_56_61_8_true hx6) ?_
  refine TO.s rfl rfl rfl (StepS.assign rfl) ?_
  refine TO.code ?_
  refine TC.k ?_
  refine TC.k ?_
  refine TC.region ?_
  refine TO.s rfl rfl rfl (StepS.move rfl) ?_
  refine TO.s rfl rfl rfl (StepS.nilc rfl) ?_
  refine TO.s rfl rfl rfl (StepS.ptrf rfl kfieldB_61_3_3_true) ?_
  refine TO.s rfl rfl rfl (StepS.ldN (j := 3) rfl (Ent.at 1 rfl) kscalB_24_true hx6 rfl rfl) ?_
  refine TO.s rfl rfl rfl (StepS.move rfl) ?_
  obtain ⟨r7, hc8, hm⟩ := bind_some hm
  refine TO.q rfl rfl rfl (StepQ.call kcallB_33_true rfl rfl (fun _ st => C33 (OwnS.rd (SN.piece (Ent.at 1 rfl) hx6 0 rfl)) hc8 st)) ?_
  refine TO.s rfl rfl rfl (StepS.not rfl) ?_
  refine TO.code ?_
  obtain ⟨y9, hj11, hm⟩ := bind_some hm
  first | refine TC.cutM (fun a w => ∃ hs10 : List (List Value), Mid 106 B [(0, .pointer (some ⟨b0_, 0, none⟩)), (1, I a1), (6, ptr h0_1 (a1.toNat * 8))] (Bx b0_ 59 [h0_1, h0_3] :: SN 61 8 nT61 h0_1 hs10 (y9) :: OwnS 79 2 h0_3 (a0.2.map cTii) :: L) a w) ?_ ?_ | refine TC.cutX (fun a w => ∃ hs10 : List (List Value), Mid 106 B [(0, .pointer (some ⟨b0_, 0, none⟩)), (1, I a1), (6, ptr h0_1 (a1.toNat * 8))] (Bx b0_ 59 [h0_1, h0_3] :: SN 61 8 nT61 h0_1 hs10 (y9) :: OwnS 79 2 h0_3 (a0.2.map cTii) :: L) a w) ?_ ?_
  · refine TC.cond rfl (fun hc12 => ?_) (fun hc12 => ?_)
    · replace hj11 := cond_t hc12 hj11
      refine TC.region ?_
      refine TO.s rfl rfl rfl (StepS.move rfl) ?_
      refine TO.s rfl rfl rfl (StepS.move rfl) ?_
      refine TO.s rfl rfl rfl (StepS.nilc rfl) ?_
      refine TO.s rfl rfl rfl (StepS.ptrf rfl kfieldB_61_3_3_true) ?_
      refine TO.s rfl rfl rfl (StepS.ldN (j := 3) rfl (Ent.at 1 rfl) kscalB_24_true hx6 rfl rfl) ?_
      refine TO.s rfl rfl rfl (StepS.move rfl) ?_
      refine TO.litS (f := cI) ([a2] : List Int) kelemB_24_3_1_8_true kinfo_3_bind_zero_some_I_0 rfl rfl (fun _ => rfl) rfl rfl (by kernel_rfl) rfl fun v13 => ?_
      refine TO.ghost (fun _ s => Sat.front 2 rfl s) ?_
      refine TO.openN (L' := (OwnS 3 1 (cv (gr h0_2 a1.toNat) 0) (x5.2.2.2.1.map cI) :: OwnS 52 2 (cv (gr h0_2 a1.toNat) 1) (x5.2.2.2.2.1.map cTii) :: OwnS 3 1 (cv (gr h0_2 a1.toNat) 2) (x5.2.2.2.2.2.2.1.map cI) :: OwnS 3 1 (cv (gr h0_2 a1.toNat) 3) (x5.2.2.2.2.2.2.2.map cI) :: SNh 61 8 nT61 h0_1 h0_2 (a0.1) a1.toNat [I x5.1, I x5.2.1, I x5.2.2.1, (cv (gr h0_2 a1.toNat) 0), (cv (gr h0_2 a1.toNat) 1), I x5.2.2.2.2.2.1, (cv (gr h0_2 a1.toNat) 2), (cv (gr h0_2 a1.toNat) 3)] :: OwnS 3 1 v13 (([a2] : List Int).map cI) :: Bx b0_ 59 [h0_1, h0_3] :: OwnS 79 2 h0_3 (a0.2.map cTii) :: L)) rfl hx6 rfl ?_
      obtain ⟨y19, hk20, hj11⟩ := bind_some hj11
      refine TO.app (k := 0) (f := cI) kelemB_24_3_1_8_true (by decide) rfl rfl rfl (OwnS.rd (Ent.at 5 rfl)) hk20 (fun x c hc => by simp [Value.oneCell'] at hc ⊢; first | (obtain rfl := hc; rfl) | (rcases hc with rfl <;> rfl)) rfl rfl fun v21 => ?_
      refine TO.s rfl rfl rfl (StepS.nilc rfl) ?_
      refine TO.s rfl rfl rfl (StepS.ptrf rfl kfieldB_61_3_3_true) ?_
      refine TO.pure (fun _ s => Rd.one (OwnS.rd (Ent.at 0 rfl)) s) fun oc22 => ?_
      refine TO.ghost (fun _ s => Sat.front 4 rfl s) ?_
      refine TO.stNh (i := a1) (off := 3) (us := [v21]) (cs' := [I x5.1, I x5.2.1, I x5.2.2.1, v21, (cv (gr h0_2 a1.toNat) 1), I x5.2.2.2.2.2.1, (cv (gr h0_2 a1.toNat) 2), (cv (gr h0_2 a1.toNat) 3)]) rfl rfl ksizeB_24_1_true oc22.2 rfl rfl hx6 rfl (by intro u hu; simp only [List.mem_cons, List.not_mem_nil, or_false] at hu; rcases hu with rfl <;> first | exact oc22.1 | rfl) rfl ?_
      refine TO.ghost (fun _ s => Sat.front 4 rfl s) ?_
      refine TO.ghost (fun _ s => Sat.front 4 rfl s) ?_
      refine TO.ghost (fun _ s => Sat.front 4 rfl s) ?_
      refine TO.ghost (fun _ s => Sat.front 4 rfl s) ?_
      obtain ⟨y24, hy25, hj11⟩ := bind_some hj11
      refine TO.closeN (T := nT61) (cs := [I x5.1, I x5.2.1, I x5.2.2.1, v21, (cv (gr h0_2 a1.toNat) 1), I x5.2.2.2.2.2.1, (cv (gr h0_2 a1.toNat) 2), (cv (gr h0_2 a1.toNat) 3)]) [v21, (cv (gr h0_2 a1.toNat) 1), (cv (gr h0_2 a1.toNat) 2), (cv (gr h0_2 a1.toNat) 3)] (x5.1, x5.2.1, x5.2.2.1, y19, x5.2.2.2.2.1, x5.2.2.2.2.2.1, x5.2.2.2.2.2.2.1, x5.2.2.2.2.2.2.2) rfl rfl hx6 (Option.some.inj hy25) fun hs23 => ?_
      cases hj11
      refine TO.nil fun a w e s => ?_
      exact ⟨hs23, e.sub (lk_of_allIn ⟨rfl, rfl, rfl, trivial⟩), s.mono fun _ s => (by exact Sat.by [3, 1, 3] 3 1 (by kernel_rfl) s)⟩
    · replace hj11 := cond_f hc12 hj11
      cases hj11
      refine TC.skip fun a w e s => ?_
      exact ⟨h0_2, e.sub (lk_of_allIn ⟨rfl, rfl, rfl, trivial⟩), s⟩
  · intro a w ⟨hs10, he, hs⟩
    refine TC.use ?_ he hs
    refine TC.k ?_
    refine TC.region_still kfollows_mixedOrders_true (by kernel_rfl) ?_
    refine TS.s rfl rfl rfl (StepS.move rfl) ?_
    refine TS.s rfl rfl rfl (StepS.nilc rfl) ?_
    refine TS.s rfl rfl rfl (StepS.ptrf rfl kfieldB_61_1_1_true) ?_
    obtain ⟨x26, hx27, hm⟩ := bind_some hm
    refine TS.s rfl rfl rfl (StepS.ldN (j := 1) rfl (Ent.at 1 rfl) kscalB_3_true hx27 rfl rfl) ?_
    refine TS.s rfl rfl rfl (StepS.cmp rfl rfl rfl) ?_
    refine TS.s rfl rfl rfl (StepS.move rfl) ?_
    obtain ⟨b29, hj30, hm⟩ := bind_some hm
    refine TS.mid1 13 49 (.bool b29) ?_ ?_
    · refine bcase ((x26.2.1 == 1)) (fun hb28 => ?_) (fun hb28 => ?_)
      · replace hj30 := cond_t hb28 hj30
        refine TS.sw rfl rfl rfl hb28 rfl rfl (StepS.move rfl) ?_
        refine TS.sw rfl rfl rfl hb28 rfl rfl (StepS.nilc rfl) ?_
        refine TS.sw rfl rfl rfl hb28 rfl rfl (StepS.ptrf rfl kfieldB_61_3_3_true) ?_
        obtain ⟨x31, hx32, hj30⟩ := bind_some hj30
        refine TS.sw rfl rfl rfl hb28 rfl rfl (StepS.ldN (j := 3) rfl (Ent.at 1 rfl) kscalB_24_true hx32 rfl rfl) ?_
        refine TS.sw rfl rfl rfl hb28 rfl rfl (StepS.lenm rfl (OwnS.rd (SN.piece (Ent.at 1 rfl) hx32 0 rfl)) ksliceB_24_3_1_true rfl) ?_
        refine TS.sw rfl rfl rfl hb28 rfl rfl (StepS.ari rfl rfl rfl) ?_
        refine TS.sw rfl rfl rfl hb28 rfl rfl (StepS.move rfl) ?_
        refine TS.sw rfl rfl rfl hb28 rfl rfl (StepS.nilc rfl) ?_
        refine TS.sw rfl rfl rfl hb28 rfl rfl (StepS.fld rfl kfieldB_59_0_0_true) ?_
        refine TS.sw rfl rfl rfl hb28 rfl rfl (StepS.ldB rfl (Ent.at 0 rfl) kscalB_56_true rfl) ?_
        refine TS.sw rfl rfl rfl hb28 rfl rfl (StepS.lenN rfl (Ent.at 1 rfl) ksliceB_56_61_8_true rfl) ?_
        refine TS.sw rfl rfl rfl hb28 rfl rfl (StepS.cmp rfl rfl rfl) ?_
        cases hj30
        refine TS.s rfl rfl rfl (StepS.pickT rfl hb28 rfl) ?_
        exact TS.up1 13 0 rfl rfl rfl rfl
      · replace hj30 := cond_f hb28 hj30
        cases hj30
        refine TS.skip rfl rfl rfl (skipF hb28) rfl rfl ?_
        refine TS.skip rfl rfl rfl (skipF hb28) rfl rfl ?_
        refine TS.skip rfl rfl rfl (skipF hb28) rfl rfl ?_
        refine TS.skip rfl rfl rfl (skipF hb28) rfl rfl ?_
        refine TS.skip rfl rfl rfl (skipF hb28) rfl rfl ?_
        refine TS.skip rfl rfl rfl (skipF hb28) rfl rfl ?_
        refine TS.skip rfl rfl rfl (skipF hb28) rfl rfl ?_
        refine TS.skip rfl rfl rfl (skipF hb28) rfl rfl ?_
        refine TS.skip rfl rfl rfl (skipF hb28) rfl rfl ?_
        refine TS.skip rfl rfl rfl (skipF hb28) rfl rfl ?_
        refine TS.skip rfl rfl rfl (skipF hb28) rfl rfl ?_
        refine TS.skip rfl rfl rfl (skipF hb28) rfl rfl ?_
        refine TS.s rfl rfl rfl (StepS.pickF rfl hb28 rfl) ?_
        exact TS.up1 13 0 rfl rfl rfl rfl
    refine TS.code ?_
    refine TC.cond rfl (fun hc33 => ?_) (fun hc33 => ?_)
    · replace hm := cond_t hc33 hm
      refine TC.k ?_
      refine TC.region ?_
      refine TO.s rfl rfl rfl (StepS.move rfl) ?_
      refine TO.s rfl rfl rfl (StepS.nilc rfl) ?_
      refine TO.s rfl rfl rfl (StepS.ptrf rfl kfieldB_61_1_1_true) ?_
      obtain ⟨x34, hx35, hm⟩ := bind_some hm
      refine TO.ghost (fun _ s => Sat.front 1 rfl s) ?_
      refine TO.openN (L' := (OwnS 3 1 (cv (gr hs10 a1.toNat) 0) (x34.2.2.2.1.map cI) :: OwnS 52 2 (cv (gr hs10 a1.toNat) 1) (x34.2.2.2.2.1.map cTii) :: OwnS 3 1 (cv (gr hs10 a1.toNat) 2) (x34.2.2.2.2.2.2.1.map cI) :: OwnS 3 1 (cv (gr hs10 a1.toNat) 3) (x34.2.2.2.2.2.2.2.map cI) :: SNh 61 8 nT61 h0_1 hs10 (y9) a1.toNat [I x34.1, I x34.2.1, I x34.2.2.1, (cv (gr hs10 a1.toNat) 0), (cv (gr hs10 a1.toNat) 1), I x34.2.2.2.2.2.1, (cv (gr hs10 a1.toNat) 2), (cv (gr hs10 a1.toNat) 3)] :: Bx b0_ 59 [h0_1, h0_3] :: OwnS 79 2 h0_3 (a0.2.map cTii) :: L)) rfl hx35 rfl ?_
      refine TO.ghost (fun _ s => Sat.front 4 rfl s) ?_
      refine TO.stNh (i := a1) (off := 1) (us := [I 2]) (cs' := [I x34.1, I 2, I x34.2.2.1, (cv (gr hs10 a1.toNat) 0), (cv (gr hs10 a1.toNat) 1), I x34.2.2.2.2.2.1, (cv (gr hs10 a1.toNat) 2), (cv (gr hs10 a1.toNat) 3)]) rfl rfl ksizeB_3_1_true rfl rfl rfl hx35 rfl (by simp [Value.oneCell']) rfl ?_
      refine TO.ghost (fun _ s => Sat.front 4 rfl s) ?_
      refine TO.ghost (fun _ s => Sat.front 4 rfl s) ?_
      refine TO.ghost (fun _ s => Sat.front 4 rfl s) ?_
      refine TO.ghost (fun _ s => Sat.front 4 rfl s) ?_
      obtain ⟨y41, hy42, hm⟩ := bind_some hm
      refine TO.closeN (T := nT61) (cs := [I x34.1, I 2, I x34.2.2.1, (cv (gr hs10 a1.toNat) 0), (cv (gr hs10 a1.toNat) 1), I x34.2.2.2.2.2.1, (cv (gr hs10 a1.toNat) 2), (cv (gr hs10 a1.toNat) 3)]) [(cv (gr hs10 a1.toNat) 0), (cv (gr hs10 a1.toNat) 1), (cv (gr hs10 a1.toNat) 2), (cv (gr hs10 a1.toNat) 3)] (x34.1, 2, x34.2.2.1, x34.2.2.2.1, x34.2.2.2.2.1, x34.2.2.2.2.2.1, x34.2.2.2.2.2.2.1, x34.2.2.2.2.2.2.2) rfl rfl hx35 (Option.some.inj hy42) fun hs40 => ?_
      refine TO.code ?_
      refine TC.k ?_
      refine TC.region_any (SN 61 8 nT61 h0_1 hs40 (y41) :: Bx b0_ 59 [h0_1, h0_3] :: L) 15 16 kfollows_mixedOrders_true rfl ?_
      refine TA.takeW 0 rfl rfl rfl rfl (StepS.move rfl) (by kernel_rfl) (by kernel_rfl) (by kernel_rfl) rfl (.inr (fun _ s => Sat.by [1, 1] 2 1 (by kernel_rfl) s)) ?_
      refine TA.takeW 1 rfl rfl rfl rfl (StepS.move rfl) (by kernel_rfl) (by kernel_rfl) (by kernel_rfl) rfl (.inr (fun _ s => Sat.by [1, 1] 2 1 (by kernel_rfl) s)) ?_
      refine TA.takeW 2 rfl rfl rfl rfl (StepS.nilc rfl) (by kernel_rfl) (by kernel_rfl) (by kernel_rfl) rfl (.inr (fun _ s => Sat.by [1, 1] 2 1 (by kernel_rfl) s)) ?_
      refine TA.takeW 3 rfl rfl rfl rfl (StepS.fld rfl kfieldB_59_1_1_true) (by kernel_rfl) (by kernel_rfl) (by kernel_rfl) rfl (.inr (fun _ s => Sat.by [1, 1] 2 1 (by kernel_rfl) s)) ?_
      refine TA.take 4 rfl rfl rfl rfl (StepS.ldB rfl (Ent.at 1 rfl) kscalB_57_true rfl) (by kernel_rfl) (by kernel_rfl) (by kernel_rfl) (by kernel_rfl) (by kernel_rfl) (fun _ s => Sat.by [1, 1] 2 1 (by kernel_rfl) s) ?_
      refine TA.takeW 5 rfl rfl rfl rfl (StepS.move rfl) (by kernel_rfl) (by kernel_rfl) (by kernel_rfl) rfl (.inr (fun _ s => Sat.by [1, 1] 2 1 (by kernel_rfl) s)) ?_
      refine TA.takeW 6 rfl rfl rfl rfl (StepS.nilc rfl) (by kernel_rfl) (by kernel_rfl) (by kernel_rfl) rfl (.inr (fun _ s => Sat.by [1, 1] 2 1 (by kernel_rfl) s)) ?_
      refine TA.takeW 7 rfl rfl rfl rfl (StepS.ptrf rfl kfieldB_61_0_0_true) (by kernel_rfl) (by kernel_rfl) (by kernel_rfl) rfl (.inr (fun _ s => Sat.by [1, 1] 2 1 (by kernel_rfl) s)) ?_
      obtain ⟨xq43_8_1, hxq43_8_2, hm⟩ := bind_some hm
      refine TA.take 8 rfl rfl rfl rfl (StepS.ldN (j := 0) rfl (Ent.at 0 rfl) kscalB_3_true hxq43_8_2 rfl rfl) (by kernel_rfl) (by kernel_rfl) (by kernel_rfl) (by kernel_rfl) (by kernel_rfl) (fun _ s => Sat.by [1, 1] 2 1 (by kernel_rfl) s) ?_
      refine TA.takeW 9 rfl rfl rfl rfl (StepS.move rfl) (by kernel_rfl) (by kernel_rfl) (by kernel_rfl) rfl (.inr (fun _ s => Sat.by [1, 1] 2 1 (by kernel_rfl) s)) ?_
      refine TA.takeW 10 rfl rfl rfl rfl (StepS.build (cs := [I xq43_8_1.1, I a1]) rfl (by kernel_rfl)) (by kernel_rfl) (by kernel_rfl) (by kernel_rfl) rfl (.inr (fun _ s => Sat.by [1, 1] 2 1 (by kernel_rfl) s)) ?_
      refine TA.all1 (i := 11) (by kernel_rfl) ?_
      refine TB.of rfl ?_
      refine TO.litS (f := cTii) ([(xq43_8_1.1, a1)] : List (Int × Int)) kelemB_57_79_2_16_true kinfo_79_bind_zero_some_agg_I_0_I_0 rfl rfl (fun _ => rfl) rfl rfl (by kernel_rfl) rfl fun vq43_11_1 => ?_
      refine TA.back (.inr (fun _ s => Sat.by [2, 2] 2 2 (by kernel_rfl) s)) ?_
      refine TA.asL (L' := (OwnS 79 2 vq43_11_1 (([(xq43_8_1.1, a1)] : List (Int × Int)).map cTii) :: SN 61 8 nT61 h0_1 hs40 (y41) :: Bx b0_ 59 [h0_1, h0_3] :: OwnS 79 2 h0_3 (a0.2.map cTii) :: L)) (listed' := #[true, true, true, true, true, true, true, true, true, true, true, true, false, false, false, false]) (by kernel_rfl) (by kernel_rfl) ?_
      refine TA.all1 (i := 12) (by kernel_rfl) ?_
      refine TB.of rfl ?_
      obtain ⟨yq43_12_1, hkq43_12_2, hm⟩ := bind_some hm
      refine TO.app (k := 3) (f := cTii) kelemB_57_79_2_16_true (by decide) rfl rfl rfl (OwnS.rd (Ent.at 0 rfl)) hkq43_12_2 (fun x c hc => by simp [Value.oneCell'] at hc ⊢; first | (obtain rfl := hc; rfl) | (rcases hc with rfl | rfl <;> rfl)) rfl rfl fun vq43_12_3 => ?_
      refine TA.back (.inr (fun _ s => Sat.by [2, 2] 2 2 (by kernel_rfl) s)) ?_
      refine TA.asL (L' := (OwnS 79 2 vq43_11_1 (([(xq43_8_1.1, a1)] : List (Int × Int)).map cTii) :: SN 61 8 nT61 h0_1 hs40 (y41) :: Bx b0_ 59 [h0_1, h0_3] :: OwnS 79 2 vq43_12_3 (yq43_12_1.map cTii) :: L)) (listed' := #[true, true, true, true, true, true, true, true, true, true, true, true, true, false, false, false]) (by kernel_rfl) (by kernel_rfl) ?_
      refine TA.takeW 13 rfl rfl rfl rfl (StepS.nilc rfl) (by kernel_rfl) (by kernel_rfl) (by kernel_rfl) rfl (.inr (fun _ s => Sat.by [2, 2] 2 2 (by kernel_rfl) s)) ?_
      refine TA.takeW 14 rfl rfl rfl rfl (StepS.fld rfl kfieldB_59_1_1_true) (by kernel_rfl) (by kernel_rfl) (by kernel_rfl) rfl (.inr (fun _ s => Sat.by [2, 2] 2 2 (by kernel_rfl) s)) ?_
      refine TA.all1 (i := 15) (by kernel_rfl) ?_
      refine TB.of rfl ?_
      refine TO.pure (fun _ s => Rd.one (OwnS.rd (Ent.at 3 rfl)) s) fun ocq43_15_1 => ?_
      refine TO.stB (us := [vq43_12_3]) 2 [h0_1, vq43_12_3] rfl rfl rfl ksizeB_57_1_true ocq43_15_1.2 rfl rfl (by intro u hu; simp only [List.mem_cons, List.not_mem_nil, or_false] at hu; rcases hu with rfl <;> first | exact ocq43_15_1.1 | rfl) rfl ?_
      refine TA.back (.inl (by kernel_rfl)) ?_
      refine TA.asL (L' := (OwnS 79 2 vq43_11_1 (([(xq43_8_1.1, a1)] : List (Int × Int)).map cTii) :: SN 61 8 nT61 h0_1 hs40 (y41) :: Bx b0_ 59 [h0_1, vq43_12_3] :: OwnS 79 2 vq43_12_3 (yq43_12_1.map cTii) :: L)) (listed' := #[true, true, true, true, true, true, true, true, true, true, true, true, true, true, true, true]) (by kernel_rfl) (by kernel_rfl) ?_
      refine TA.code (by kernel_rfl) ?_
      refine TC.k ?_
      refine TC.region ?_
      refine TO.s rfl rfl rfl (StepS.move rfl) ?_
      refine TO.s rfl rfl rfl (StepS.move rfl) ?_
      refine TO.s rfl rfl rfl (StepS.nilc rfl) ?_
      refine TO.s rfl rfl rfl (StepS.fld rfl kfieldB_59_0_0_true) ?_
      refine TO.s rfl rfl rfl (StepS.ldB rfl (Ent.at 2 rfl) kscalB_56_true rfl) ?_
      refine TO.s rfl rfl rfl (StepS.lenN rfl (Ent.at 1 rfl) ksliceB_56_61_8_true rfl) ?_
      obtain ⟨y44, hk45, hm⟩ := bind_some hm
      refine TO.mkS (f := cI) (za := 0) kelemB_24_3_1_8_true kinfo_3_bind_zero_some_I_0 rfl (by decide) rfl rfl hk45 rfl fun v46 => ?_
      refine TO.s rfl rfl rfl (StepS.nilc rfl) ?_
      refine TO.s rfl rfl rfl (StepS.ptrf rfl kfieldB_61_6_6_true) ?_
      obtain ⟨x48, hx49, hm⟩ := bind_some hm
      refine TO.ghost (fun _ s => Sat.front 2 rfl s) ?_
      refine TO.openN (L' := (OwnS 3 1 (cv (gr hs40 a1.toNat) 0) (x48.2.2.2.1.map cI) :: OwnS 52 2 (cv (gr hs40 a1.toNat) 1) (x48.2.2.2.2.1.map cTii) :: OwnS 3 1 (cv (gr hs40 a1.toNat) 2) (x48.2.2.2.2.2.2.1.map cI) :: OwnS 3 1 (cv (gr hs40 a1.toNat) 3) (x48.2.2.2.2.2.2.2.map cI) :: SNh 61 8 nT61 h0_1 hs40 (y41) a1.toNat [I x48.1, I x48.2.1, I x48.2.2.1, (cv (gr hs40 a1.toNat) 0), (cv (gr hs40 a1.toNat) 1), I x48.2.2.2.2.2.1, (cv (gr hs40 a1.toNat) 2), (cv (gr hs40 a1.toNat) 3)] :: OwnS 3 1 v46 (y44.map cI) :: OwnS 79 2 vq43_11_1 (([(xq43_8_1.1, a1)] : List (Int × Int)).map cTii) :: Bx b0_ 59 [h0_1, vq43_12_3] :: OwnS 79 2 vq43_12_3 (yq43_12_1.map cTii) :: L)) rfl hx49 rfl ?_
      refine TO.pure (fun _ s => Rd.one (OwnS.rd (Ent.at 5 rfl)) s) fun oc54 => ?_
      refine TO.ghost (fun _ s => Sat.front 4 rfl s) ?_
      refine TO.stNh (i := a1) (off := 6) (us := [v46]) (cs' := [I x48.1, I x48.2.1, I x48.2.2.1, (cv (gr hs40 a1.toNat) 0), (cv (gr hs40 a1.toNat) 1), I x48.2.2.2.2.2.1, v46, (cv (gr hs40 a1.toNat) 3)]) rfl rfl ksizeB_24_1_true oc54.2 rfl rfl hx49 rfl (by intro u hu; simp only [List.mem_cons, List.not_mem_nil, or_false] at hu; rcases hu with rfl <;> first | exact oc54.1 | rfl) rfl ?_
      refine TO.ghost (fun _ s => Sat.front 4 rfl s) ?_
      refine TO.ghost (fun _ s => Sat.front 5 rfl s) ?_
      refine TO.ghost (fun _ s => Sat.front 4 rfl s) ?_
      refine TO.ghost (fun _ s => Sat.front 4 rfl s) ?_
      obtain ⟨y56, hy57, hm⟩ := bind_some hm
      refine TO.closeN (T := nT61) (cs := [I x48.1, I x48.2.1, I x48.2.2.1, (cv (gr hs40 a1.toNat) 0), (cv (gr hs40 a1.toNat) 1), I x48.2.2.2.2.2.1, v46, (cv (gr hs40 a1.toNat) 3)]) [(cv (gr hs40 a1.toNat) 0), (cv (gr hs40 a1.toNat) 1), v46, (cv (gr hs40 a1.toNat) 3)] (x48.1, x48.2.1, x48.2.2.1, x48.2.2.2.1, x48.2.2.2.2.1, x48.2.2.2.2.2.1, y44, x48.2.2.2.2.2.2.2) rfl rfl hx49 (Option.some.inj hy57) fun hs55 => ?_
      refine TO.code ?_
      refine TC.k ?_
      refine TC.region ?_
      refine TO.s rfl rfl rfl (StepS.move rfl) ?_
      refine TO.s rfl rfl rfl (StepS.move rfl) ?_
      refine TO.s rfl rfl rfl (StepS.nilc rfl) ?_
      refine TO.s rfl rfl rfl (StepS.fld rfl kfieldB_59_0_0_true) ?_
      refine TO.s rfl rfl rfl (StepS.ldB rfl (Ent.at 3 rfl) kscalB_56_true rfl) ?_
      refine TO.s rfl rfl rfl (StepS.lenN rfl (Ent.at 0 rfl) ksliceB_56_61_8_true rfl) ?_
      obtain ⟨y58, hk59, hm⟩ := bind_some hm
      refine TO.mkS (f := cI) (za := 0) kelemB_24_3_1_8_true kinfo_3_bind_zero_some_I_0 rfl (by decide) rfl rfl hk59 rfl fun v60 => ?_
      refine TO.s rfl rfl rfl (StepS.nilc rfl) ?_
      refine TO.s rfl rfl rfl (StepS.ptrf rfl kfieldB_61_7_7_true) ?_
      obtain ⟨x62, hx63, hm⟩ := bind_some hm
      refine TO.ghost (fun _ s => Sat.front 1 rfl s) ?_
      refine TO.openN (L' := (OwnS 3 1 (cv (gr hs55 a1.toNat) 0) (x62.2.2.2.1.map cI) :: OwnS 52 2 (cv (gr hs55 a1.toNat) 1) (x62.2.2.2.2.1.map cTii) :: OwnS 3 1 (cv (gr hs55 a1.toNat) 2) (x62.2.2.2.2.2.2.1.map cI) :: OwnS 3 1 (cv (gr hs55 a1.toNat) 3) (x62.2.2.2.2.2.2.2.map cI) :: SNh 61 8 nT61 h0_1 hs55 (y56) a1.toNat [I x62.1, I x62.2.1, I x62.2.2.1, (cv (gr hs55 a1.toNat) 0), (cv (gr hs55 a1.toNat) 1), I x62.2.2.2.2.2.1, (cv (gr hs55 a1.toNat) 2), (cv (gr hs55 a1.toNat) 3)] :: OwnS 3 1 v60 (y58.map cI) :: OwnS 3 1 (cv (gr hs40 a1.toNat) 2) (x48.2.2.2.2.2.2.1.map cI) :: OwnS 79 2 vq43_11_1 (([(xq43_8_1.1, a1)] : List (Int × Int)).map cTii) :: Bx b0_ 59 [h0_1, vq43_12_3] :: OwnS 79 2 vq43_12_3 (yq43_12_1.map cTii) :: L)) rfl hx63 rfl ?_
      refine TO.pure (fun _ s => Rd.one (OwnS.rd (Ent.at 5 rfl)) s) fun oc68 => ?_
      refine TO.ghost (fun _ s => Sat.front 4 rfl s) ?_
      refine TO.stNh (i := a1) (off := 7) (us := [v60]) (cs' := [I x62.1, I x62.2.1, I x62.2.2.1, (cv (gr hs55 a1.toNat) 0), (cv (gr hs55 a1.toNat) 1), I x62.2.2.2.2.2.1, (cv (gr hs55 a1.toNat) 2), v60]) rfl rfl ksizeB_24_1_true oc68.2 rfl rfl hx63 rfl (by intro u hu; simp only [List.mem_cons, List.not_mem_nil, or_false] at hu; rcases hu with rfl <;> first | exact oc68.1 | rfl) rfl ?_
      refine TO.ghost (fun _ s => Sat.front 5 rfl s) ?_
      refine TO.ghost (fun _ s => Sat.front 4 rfl s) ?_
      refine TO.ghost (fun _ s => Sat.front 4 rfl s) ?_
      refine TO.ghost (fun _ s => Sat.front 4 rfl s) ?_
      obtain ⟨y70, hy71, hm⟩ := bind_some hm
      refine TO.closeN (T := nT61) (cs := [I x62.1, I x62.2.1, I x62.2.2.1, (cv (gr hs55 a1.toNat) 0), (cv (gr hs55 a1.toNat) 1), I x62.2.2.2.2.2.1, (cv (gr hs55 a1.toNat) 2), v60]) [(cv (gr hs55 a1.toNat) 0), (cv (gr hs55 a1.toNat) 1), (cv (gr hs55 a1.toNat) 2), v60] (x62.1, x62.2.1, x62.2.2.1, x62.2.2.2.1, x62.2.2.2.2.1, x62.2.2.2.2.2.1, x62.2.2.2.2.2.2.1, y58) rfl rfl hx63 (Option.some.inj hy71) fun hs69 => ?_
      refine TO.code ?_
      refine TC.k ?_
      refine TC.region ?_
      refine TO.s rfl rfl rfl (StepS.assign rfl) ?_
      refine TO.code ?_
      obtain ⟨o80, hw81, hm⟩ := bind_some hm
      refine TC.loop hw81 (fun (y72, x74) => fun a w => ∃ hs73 : List (List Value), Mid 106 B [(0, .pointer (some ⟨b0_, 0, none⟩)), (6, ptr h0_1 (a1.toNat * 8)), (7, I x74)] (SN 61 8 nT61 h0_1 hs73 (y72) :: OwnS 3 1 (cv (gr hs55 a1.toNat) 3) (x62.2.2.2.2.2.2.2.map cI) :: OwnS 3 1 (cv (gr hs40 a1.toNat) 2) (x48.2.2.2.2.2.2.1.map cI) :: OwnS 79 2 vq43_11_1 (([(xq43_8_1.1, a1)] : List (Int × Int)).map cTii) :: Bx b0_ 59 [h0_1, vq43_12_3] :: OwnS 79 2 vq43_12_3 (yq43_12_1.map cTii) :: L) a w) (fun y78 => fun a w => ∃ hs79 : List (List Value), Mid 106 B [] (SN 61 8 nT61 h0_1 hs79 (y78) :: OwnS 3 1 (cv (gr hs55 a1.toNat) 3) (x62.2.2.2.2.2.2.2.map cI) :: OwnS 3 1 (cv (gr hs40 a1.toNat) 2) (x48.2.2.2.2.2.2.1.map cI) :: OwnS 79 2 vq43_11_1 (([(xq43_8_1.1, a1)] : List (Int × Int)).map cTii) :: Bx b0_ 59 [h0_1, vq43_12_3] :: OwnS 79 2 vq43_12_3 (yq43_12_1.map cTii) :: L) a w) (fun (_ : Unit) _ _ => False) ?_ ?_ ?_ ?_
      · rintro ⟨y72, x74⟩ o80r hb82 a w ⟨hs73, he, hs⟩
        dsimp only [F25_L0] at hb82
        refine TC.use ?_ he hs
        refine TC.k ?_
        refine TC.k ?_
        refine TC.region ?_
        refine TO.s rfl rfl rfl (StepS.move rfl) ?_
        refine TO.s rfl rfl rfl (StepS.move rfl) ?_
        refine TO.s rfl rfl rfl (StepS.nilc rfl) ?_
        refine TO.s rfl rfl rfl (StepS.fld rfl kfieldB_59_0_0_true) ?_
        refine TO.s rfl rfl rfl (StepS.ldB rfl (Ent.at 4 rfl) kscalB_56_true rfl) ?_
        refine TO.s rfl rfl rfl (StepS.lenN rfl (Ent.at 0 rfl) ksliceB_56_61_8_true rfl) ?_
        refine TO.s rfl rfl rfl (StepS.cmp rfl rfl rfl) ?_
        refine TO.code ?_
        refine TC.cond rfl (fun hc83 => ?_) (fun hc83 => ?_)
        · replace hb82 := cond_t hc83 hb82
          refine TC.skipk ?_
          refine TC.k ?_
          refine TC.block ?_
          refine TC.region_tail 11 kfollows_mixedOrders_true (by kernel_rfl) ?_
          refine TS.s rfl rfl rfl (StepS.move rfl) ?_
          refine TS.s rfl rfl rfl (StepS.nilc rfl) ?_
          refine TS.s rfl rfl rfl (StepS.ptrf rfl kfieldB_61_7_7_true) ?_
          obtain ⟨x84, hx85, hb82⟩ := bind_some hb82
          refine TS.s rfl rfl rfl (StepS.ldN (j := 7) rfl (Ent.at 0 rfl) kscalB_24_true hx85 rfl rfl) ?_
          refine TS.s rfl rfl rfl (StepS.move rfl) ?_
          refine TS.s rfl rfl rfl (StepS.move rfl) ?_
          refine TS.s rfl rfl rfl (StepS.nilc rfl) ?_
          refine TS.s rfl rfl rfl (StepS.ptrf rfl kfieldB_61_4_4_true) ?_
          obtain ⟨x86, hx87, hb82⟩ := bind_some hb82
          refine TS.s rfl rfl rfl (StepS.ldN (j := 4) rfl (Ent.at 0 rfl) kscalB_36_true hx87 rfl rfl) ?_
          refine TS.s rfl rfl rfl (StepS.lenm rfl (OwnS.rd (SN.piece (Ent.at 0 rfl) hx87 1 rfl)) ksliceB_36_52_2_true rfl) ?_
          obtain ⟨x88, hx89, hb82⟩ := bind_some hb82
          refine TS.s rfl rfl rfl (StepS.idx rfl rfl (OwnS.rd (SN.piece (Ent.at 0 rfl) hx85 3 rfl)) ksliceB_24_3_1_true (idx_spec hx89).1 (idxm_lt hx89)) ?_
          refine TS.nil ?_
          refine TO.at ?_
          refine TO.openN (L' := (OwnS 3 1 (cv (gr hs73 a1.toNat) 0) (x84.2.2.2.1.map cI) :: OwnS 52 2 (cv (gr hs73 a1.toNat) 1) (x84.2.2.2.2.1.map cTii) :: OwnS 3 1 (cv (gr hs73 a1.toNat) 2) (x84.2.2.2.2.2.2.1.map cI) :: OwnS 3 1 (cv (gr hs73 a1.toNat) 3) (x84.2.2.2.2.2.2.2.map cI) :: SNh 61 8 nT61 h0_1 hs73 (y72) a1.toNat [I x84.1, I x84.2.1, I x84.2.2.1, (cv (gr hs73 a1.toNat) 0), (cv (gr hs73 a1.toNat) 1), I x84.2.2.2.2.2.1, (cv (gr hs73 a1.toNat) 2), (cv (gr hs73 a1.toNat) 3)] :: OwnS 3 1 (cv (gr hs55 a1.toNat) 3) (x62.2.2.2.2.2.2.2.map cI) :: OwnS 3 1 (cv (gr hs40 a1.toNat) 2) (x48.2.2.2.2.2.2.1.map cI) :: OwnS 79 2 vq43_11_1 (([(xq43_8_1.1, a1)] : List (Int × Int)).map cTii) :: Bx b0_ 59 [h0_1, vq43_12_3] :: OwnS 79 2 vq43_12_3 (yq43_12_1.map cTii) :: L)) rfl hx85 rfl ?_
          refine TO.stO (i := x74.toNat) (off := 0) (us := [I (x86.2.2.2.2.1.length : Int)]) 3 (x86.2.2.2.2.1.length : Int) rfl rfl rfl ksizeB_3_1_true rfl rfl rfl (idx_spec hx89).2 rfl (by simp [Value.oneCell']) rfl ?_
          refine TO.ghost (fun _ s => Sat.front 4 rfl s) ?_
          refine TO.ghost (fun _ s => Sat.front 4 rfl s) ?_
          refine TO.ghost (fun _ s => Sat.front 4 rfl s) ?_
          refine TO.ghost (fun _ s => Sat.front 4 rfl s) ?_
          refine TO.ghost (fun _ s => Sat.front 4 rfl s) ?_
          obtain ⟨y95, hy96, hb82⟩ := bind_some hb82
          refine TO.closeN (T := nT61) (cs := [I x84.1, I x84.2.1, I x84.2.2.1, (cv (gr hs73 a1.toNat) 0), (cv (gr hs73 a1.toNat) 1), I x84.2.2.2.2.2.1, (cv (gr hs73 a1.toNat) 2), (cv (gr hs73 a1.toNat) 3)]) [(cv (gr hs73 a1.toNat) 0), (cv (gr hs73 a1.toNat) 1), (cv (gr hs73 a1.toNat) 2), (cv (gr hs73 a1.toNat) 3)] (x84.1, x84.2.1, x84.2.2.1, x84.2.2.2.1, x84.2.2.2.2.1, x84.2.2.2.2.2.1, x84.2.2.2.2.2.2.1, x84.2.2.2.2.2.2.2.set x74.toNat (x86.2.2.2.2.1.length : Int)) rfl rfl hx85 (Option.some.inj hy96) fun hs94 => ?_
          refine TO.code ?_
          refine TC.region ?_
          refine TO.s rfl rfl rfl (StepS.move rfl) ?_
          refine TO.s rfl rfl rfl (StepS.ari rfl rfl rfl) ?_
          refine TO.s rfl rfl rfl (StepS.assign rfl) ?_
          cases hb82
          refine TO.nil fun a w e s => ?_
          exact ⟨hs94, e.sub (lk_of_allIn ⟨rfl, rfl, rfl, trivial⟩), s⟩
        · replace hb82 := cond_f hc83 hb82
          cases hb82
          refine TC.exit rfl fun a w e s => ?_
          exact ⟨hs73, e.sub (lk_of_allIn trivial), s⟩
      · exact fun a w e s => ⟨hs69, e.sub (lk_of_allIn ⟨rfl, rfl, rfl, trivial⟩), s⟩
      · rintro y78 rfl a w ⟨hs79, he, hs⟩
        dsimp only [Ctl.on] at hm
        cases hm
        have e := he; have s := hs
        refine FRet.mk0 (P := Try.prog) (fn := Try.f25) e rfl ?_
        refine ⟨_, _, rfl, ⟨(hs79), (vq43_12_3), rfl, rfl⟩, ?_⟩
        refine s.mono fun _ s => ?_
        replace s := Sat.front 5 rfl s
        replace s := Sat.front 1 rfl s
        replace s := Sat.front 5 rfl s
        replace s := Sat.erase 3 s
        replace s := Sat.erase 3 s
        replace s := Sat.erase 3 s
        exact s
      · rintro r rfl
        exact fun a w h => h.elim
    · replace hm := cond_f hc33 hm
      cases hm
      refine TC.skip fun a w e s => ?_
      refine FRet.mk0 (P := Try.prog) (fn := Try.f25) e rfl ?_
      refine ⟨_, _, rfl, ⟨(hs10), (h0_3), rfl, rfl⟩, ?_⟩
      refine s.mono fun _ s => ?_
      replace s := Sat.front 2 rfl s
      replace s := Sat.front 2 rfl s
      replace s := Sat.front 2 rfl s
      exact s

set_option maxRecDepth 100000 in
theorem C26 {B : World} {L : List HP} {a0 : List (Int × Int × Int × (List Int) × (List (Int × Int)) × Int × (List Int) × List Int)} {a1 : Int} {a2 : Int} {b0_ : Nat} {u0_1 : Value} {h0_1 : Value} {h0_2 : List (List Value)} {s0 : List (Int × Int × Int × (List Int) × (List (Int × Int)) × Int × (List Int) × List Int)} (hm : F26 a0 a1 a2 = some s0) {w : World} (st : St B (Bx b0_ 59 [h0_1, u0_1] :: SN 61 8 nT61 h0_1 h0_2 (a0) :: L) w) : Calls Try.prog 26 #[.pointer (some ⟨b0_, 0, none⟩), I a1, I a2] w (fun e w' => ∃ v M, e = .returned v ∧ (∃ (qhs1 : List (List Value)), v = .tuple #[] ∧ M = (Bx b0_ 59 [h0_1, u0_1] :: SN 61 8 nT61 h0_1 qhs1 (s0) :: L)) ∧ St B M w') := by
  refine calls_of (N := 32) (L := (Bx b0_ 59 [h0_1, u0_1] :: SN 61 8 nT61 h0_1 h0_2 (a0) :: L)) (args := [.pointer (some ⟨b0_, 0, none⟩), I a1, I a2]) Try.func26 rfl rfl rfl ?_ st
  dsimp only [F26] at hm
  refine TC.k ?_
  refine TC.region ?_
  refine TO.s rfl rfl rfl (StepS.move rfl) ?_
  refine TO.s rfl rfl rfl (StepS.nilc rfl) ?_
  refine TO.s rfl rfl rfl (StepS.fld rfl kfieldB_59_0_0_true) ?_
  refine TO.s rfl rfl rfl (StepS.ldB rfl (Ent.at 0 rfl) kscalB_56_true rfl) ?_
  refine TO.s rfl rfl rfl (StepS.move rfl) ?_
  obtain ⟨x3, hx4, hm⟩ := bind_some hm
  refine TO.s rfl rfl rfl (StepS.idxN rfl rfl (Ent.at 1 rfl) ksliceB_56_61_8_true hx4) ?_
  refine TO.s rfl rfl rfl (StepS.assign rfl) ?_
  refine TO.code ?_
  refine TC.k ?_
  refine TC.region ?_
  refine TO.s rfl rfl rfl (StepS.move rfl) ?_
  refine TO.s rfl rfl rfl (StepS.move rfl) ?_
  refine TO.s rfl rfl rfl (StepS.nilc rfl) ?_
  refine TO.s rfl rfl rfl (StepS.ptrf rfl kfieldB_61_0_0_true) ?_
  refine TO.s rfl rfl rfl (StepS.ldN (j := 0) rfl (Ent.at 1 rfl) kscalB_3_true hx4 rfl rfl) ?_
  refine TO.s rfl rfl rfl (StepS.cmp rfl rfl rfl) ?_
  refine TO.code ?_
  refine TC.cond rfl (fun hc5 => ?_) (fun hc5 => ?_)
  · replace hm := cond_t hc5 hm
    refine TC.k ?_
    refine TC.region ?_
    refine TO.s rfl rfl rfl (StepS.move rfl) ?_
    refine TO.s rfl rfl rfl (StepS.move rfl) ?_
    refine TO.s rfl rfl rfl (StepS.nilc rfl) ?_
    refine TO.s rfl rfl rfl (StepS.ptrf rfl kfieldB_61_0_0_true) ?_
    refine TO.ghost (fun _ s => Sat.front 1 rfl s) ?_
    refine TO.openN (L' := (OwnS 3 1 (cv (gr h0_2 a1.toNat) 0) (x3.2.2.2.1.map cI) :: OwnS 52 2 (cv (gr h0_2 a1.toNat) 1) (x3.2.2.2.2.1.map cTii) :: OwnS 3 1 (cv (gr h0_2 a1.toNat) 2) (x3.2.2.2.2.2.2.1.map cI) :: OwnS 3 1 (cv (gr h0_2 a1.toNat) 3) (x3.2.2.2.2.2.2.2.map cI) :: SNh 61 8 nT61 h0_1 h0_2 (a0) a1.toNat [I x3.1, I x3.2.1, I x3.2.2.1, (cv (gr h0_2 a1.toNat) 0), (cv (gr h0_2 a1.toNat) 1), I x3.2.2.2.2.2.1, (cv (gr h0_2 a1.toNat) 2), (cv (gr h0_2 a1.toNat) 3)] :: Bx b0_ 59 [h0_1, u0_1] :: L)) rfl hx4 rfl ?_
    refine TO.ghost (fun _ s => Sat.front 4 rfl s) ?_
    refine TO.stNh (i := a1) (off := 0) (us := [I a2]) (cs' := [I a2, I x3.2.1, I x3.2.2.1, (cv (gr h0_2 a1.toNat) 0), (cv (gr h0_2 a1.toNat) 1), I x3.2.2.2.2.2.1, (cv (gr h0_2 a1.toNat) 2), (cv (gr h0_2 a1.toNat) 3)]) rfl rfl ksizeB_3_1_true rfl rfl rfl hx4 rfl (by simp [Value.oneCell']) rfl ?_
    refine TO.ghost (fun _ s => Sat.front 4 rfl s) ?_
    refine TO.ghost (fun _ s => Sat.front 4 rfl s) ?_
    refine TO.ghost (fun _ s => Sat.front 4 rfl s) ?_
    refine TO.ghost (fun _ s => Sat.front 4 rfl s) ?_
    obtain ⟨y11, hy12, hm⟩ := bind_some hm
    refine TO.closeN (T := nT61) (cs := [I a2, I x3.2.1, I x3.2.2.1, (cv (gr h0_2 a1.toNat) 0), (cv (gr h0_2 a1.toNat) 1), I x3.2.2.2.2.2.1, (cv (gr h0_2 a1.toNat) 2), (cv (gr h0_2 a1.toNat) 3)]) [(cv (gr h0_2 a1.toNat) 0), (cv (gr h0_2 a1.toNat) 1), (cv (gr h0_2 a1.toNat) 2), (cv (gr h0_2 a1.toNat) 3)] (a2, x3.2.1, x3.2.2.1, x3.2.2.2.1, x3.2.2.2.2.1, x3.2.2.2.2.2.1, x3.2.2.2.2.2.2.1, x3.2.2.2.2.2.2.2) rfl rfl hx4 (Option.some.inj hy12) fun hs10 => ?_
    refine TO.code ?_
    refine TC.k ?_
    refine TC.region ?_
    refine TO.s rfl rfl rfl (StepS.move rfl) ?_
    refine TO.s rfl rfl rfl (StepS.nilc rfl) ?_
    refine TO.s rfl rfl rfl (StepS.ptrf rfl kfieldB_61_2_2_true) ?_
    obtain ⟨x13, hx14, hm⟩ := bind_some hm
    refine TO.openN (L' := (OwnS 3 1 (cv (gr hs10 a1.toNat) 0) (x13.2.2.2.1.map cI) :: OwnS 52 2 (cv (gr hs10 a1.toNat) 1) (x13.2.2.2.2.1.map cTii) :: OwnS 3 1 (cv (gr hs10 a1.toNat) 2) (x13.2.2.2.2.2.2.1.map cI) :: OwnS 3 1 (cv (gr hs10 a1.toNat) 3) (x13.2.2.2.2.2.2.2.map cI) :: SNh 61 8 nT61 h0_1 hs10 (y11) a1.toNat [I x13.1, I x13.2.1, I x13.2.2.1, (cv (gr hs10 a1.toNat) 0), (cv (gr hs10 a1.toNat) 1), I x13.2.2.2.2.2.1, (cv (gr hs10 a1.toNat) 2), (cv (gr hs10 a1.toNat) 3)] :: Bx b0_ 59 [h0_1, u0_1] :: L)) rfl hx14 rfl ?_
    refine TO.ghost (fun _ s => Sat.front 4 rfl s) ?_
    refine TO.stNh (i := a1) (off := 2) (us := [I (-1)]) (cs' := [I x13.1, I x13.2.1, I (-1), (cv (gr hs10 a1.toNat) 0), (cv (gr hs10 a1.toNat) 1), I x13.2.2.2.2.2.1, (cv (gr hs10 a1.toNat) 2), (cv (gr hs10 a1.toNat) 3)]) rfl rfl ksizeB_3_1_true rfl rfl rfl hx14 rfl (by simp [Value.oneCell']) rfl ?_
    refine TO.ghost (fun _ s => Sat.front 4 rfl s) ?_
    refine TO.ghost (fun _ s => Sat.front 4 rfl s) ?_
    refine TO.ghost (fun _ s => Sat.front 4 rfl s) ?_
    refine TO.ghost (fun _ s => Sat.front 4 rfl s) ?_
    obtain ⟨y20, hy21, hm⟩ := bind_some hm
    refine TO.closeN (T := nT61) (cs := [I x13.1, I x13.2.1, I (-1), (cv (gr hs10 a1.toNat) 0), (cv (gr hs10 a1.toNat) 1), I x13.2.2.2.2.2.1, (cv (gr hs10 a1.toNat) 2), (cv (gr hs10 a1.toNat) 3)]) [(cv (gr hs10 a1.toNat) 0), (cv (gr hs10 a1.toNat) 1), (cv (gr hs10 a1.toNat) 2), (cv (gr hs10 a1.toNat) 3)] (x13.1, x13.2.1, (-1), x13.2.2.2.1, x13.2.2.2.2.1, x13.2.2.2.2.2.1, x13.2.2.2.2.2.2.1, x13.2.2.2.2.2.2.2) rfl rfl hx14 (Option.some.inj hy21) fun hs19 => ?_
    refine TO.code ?_
    refine TC.k ?_
    refine TC.region ?_
    refine TO.s rfl rfl rfl (StepS.move rfl) ?_
    refine TO.s rfl rfl rfl (StepS.nilc rfl) ?_
    refine TO.s rfl rfl rfl (StepS.ptrf rfl kfieldB_61_1_1_true) ?_
    obtain ⟨x22, hx23, hm⟩ := bind_some hm
    refine TO.openN (L' := (OwnS 3 1 (cv (gr hs19 a1.toNat) 0) (x22.2.2.2.1.map cI) :: OwnS 52 2 (cv (gr hs19 a1.toNat) 1) (x22.2.2.2.2.1.map cTii) :: OwnS 3 1 (cv (gr hs19 a1.toNat) 2) (x22.2.2.2.2.2.2.1.map cI) :: OwnS 3 1 (cv (gr hs19 a1.toNat) 3) (x22.2.2.2.2.2.2.2.map cI) :: SNh 61 8 nT61 h0_1 hs19 (y20) a1.toNat [I x22.1, I x22.2.1, I x22.2.2.1, (cv (gr hs19 a1.toNat) 0), (cv (gr hs19 a1.toNat) 1), I x22.2.2.2.2.2.1, (cv (gr hs19 a1.toNat) 2), (cv (gr hs19 a1.toNat) 3)] :: Bx b0_ 59 [h0_1, u0_1] :: L)) rfl hx23 rfl ?_
    refine TO.ghost (fun _ s => Sat.front 4 rfl s) ?_
    refine TO.stNh (i := a1) (off := 1) (us := [I 0]) (cs' := [I x22.1, I 0, I x22.2.2.1, (cv (gr hs19 a1.toNat) 0), (cv (gr hs19 a1.toNat) 1), I x22.2.2.2.2.2.1, (cv (gr hs19 a1.toNat) 2), (cv (gr hs19 a1.toNat) 3)]) rfl rfl ksizeB_3_1_true rfl rfl rfl hx23 rfl (by simp [Value.oneCell']) rfl ?_
    refine TO.ghost (fun _ s => Sat.front 4 rfl s) ?_
    refine TO.ghost (fun _ s => Sat.front 4 rfl s) ?_
    refine TO.ghost (fun _ s => Sat.front 4 rfl s) ?_
    refine TO.ghost (fun _ s => Sat.front 4 rfl s) ?_
    obtain ⟨y29, hy30, hm⟩ := bind_some hm
    refine TO.closeN (T := nT61) (cs := [I x22.1, I 0, I x22.2.2.1, (cv (gr hs19 a1.toNat) 0), (cv (gr hs19 a1.toNat) 1), I x22.2.2.2.2.2.1, (cv (gr hs19 a1.toNat) 2), (cv (gr hs19 a1.toNat) 3)]) [(cv (gr hs19 a1.toNat) 0), (cv (gr hs19 a1.toNat) 1), (cv (gr hs19 a1.toNat) 2), (cv (gr hs19 a1.toNat) 3)] (x22.1, 0, x22.2.2.1, x22.2.2.2.1, x22.2.2.2.2.1, x22.2.2.2.2.2.1, x22.2.2.2.2.2.2.1, x22.2.2.2.2.2.2.2) rfl rfl hx23 (Option.some.inj hy30) fun hs28 => ?_
    refine TO.code ?_
    refine TC.region ?_
    refine TO.s rfl rfl rfl (StepS.move rfl) ?_
    refine TO.s rfl rfl rfl (StepS.nilc rfl) ?_
    refine TO.s rfl rfl rfl (StepS.ptrf rfl kfieldB_61_3_3_true) ?_
    refine TO.ghost (fun _ => Sat.nilS (e := 3) (sz := 1) (f := cI)) ?_
    obtain ⟨x32, hx33, hm⟩ := bind_some hm
    refine TO.ghost (fun _ s => Sat.front 1 rfl s) ?_
    refine TO.openN (L' := (OwnS 3 1 (cv (gr hs28 a1.toNat) 0) (x32.2.2.2.1.map cI) :: OwnS 52 2 (cv (gr hs28 a1.toNat) 1) (x32.2.2.2.2.1.map cTii) :: OwnS 3 1 (cv (gr hs28 a1.toNat) 2) (x32.2.2.2.2.2.2.1.map cI) :: OwnS 3 1 (cv (gr hs28 a1.toNat) 3) (x32.2.2.2.2.2.2.2.map cI) :: SNh 61 8 nT61 h0_1 hs28 (y29) a1.toNat [I x32.1, I x32.2.1, I x32.2.2.1, (cv (gr hs28 a1.toNat) 0), (cv (gr hs28 a1.toNat) 1), I x32.2.2.2.2.2.1, (cv (gr hs28 a1.toNat) 2), (cv (gr hs28 a1.toNat) 3)] :: OwnS 3 1 (.slice none 0 0) (([] : List (Int)).map cI) :: Bx b0_ 59 [h0_1, u0_1] :: L)) rfl hx33 rfl ?_
    refine TO.pure (fun _ s => Rd.one (OwnS.rd (Ent.at 5 rfl)) s) fun oc38 => ?_
    refine TO.ghost (fun _ s => Sat.front 4 rfl s) ?_
    refine TO.stNh (i := a1) (off := 3) (us := [(.slice none 0 0)]) (cs' := [I x32.1, I x32.2.1, I x32.2.2.1, (.slice none 0 0), (cv (gr hs28 a1.toNat) 1), I x32.2.2.2.2.2.1, (cv (gr hs28 a1.toNat) 2), (cv (gr hs28 a1.toNat) 3)]) rfl rfl ksizeB_24_1_true oc38.2 rfl rfl hx33 rfl (by intro u hu; simp only [List.mem_cons, List.not_mem_nil, or_false] at hu; rcases hu with rfl <;> first | exact oc38.1 | rfl) rfl ?_
    refine TO.ghost (fun _ s => Sat.front 4 rfl s) ?_
    refine TO.ghost (fun _ s => Sat.front 4 rfl s) ?_
    refine TO.ghost (fun _ s => Sat.front 4 rfl s) ?_
    refine TO.ghost (fun _ s => Sat.front 5 rfl s) ?_
    obtain ⟨y40, hy41, hm⟩ := bind_some hm
    refine TO.closeN (T := nT61) (cs := [I x32.1, I x32.2.1, I x32.2.2.1, (.slice none 0 0), (cv (gr hs28 a1.toNat) 1), I x32.2.2.2.2.2.1, (cv (gr hs28 a1.toNat) 2), (cv (gr hs28 a1.toNat) 3)]) [(.slice none 0 0), (cv (gr hs28 a1.toNat) 1), (cv (gr hs28 a1.toNat) 2), (cv (gr hs28 a1.toNat) 3)] (x32.1, x32.2.1, x32.2.2.1, ([] : List (Int)), x32.2.2.2.2.1, x32.2.2.2.2.2.1, x32.2.2.2.2.2.2.1, x32.2.2.2.2.2.2.2) rfl rfl hx33 (Option.some.inj hy41) fun hs39 => ?_
    cases hm
    refine TO.nil fun a w e s => ?_
    refine FRet.mk0 (P := Try.prog) (fn := Try.f26) e rfl ?_
    refine ⟨_, _, rfl, ⟨(hs39), rfl, rfl⟩, ?_⟩
    refine s.mono fun _ s => ?_
    replace s := Sat.front 0 rfl s
    replace s := Sat.front 2 rfl s
    replace s := Sat.erase 2 s
    exact s
  · replace hm := cond_f hc5 hm
    cases hm
    refine TC.skip fun a w e s => ?_
    refine FRet.mk0 (P := Try.prog) (fn := Try.f26) e rfl ?_
    refine ⟨_, _, rfl, ⟨(h0_2), rfl, rfl⟩, ?_⟩
    refine s.mono fun _ s => ?_
    replace s := Sat.front 1 rfl s
    replace s := Sat.front 1 rfl s
    exact s

set_option maxRecDepth 100000 in
theorem C27 {B : World} {L : List HP} {a0 : List (Int × Int)} {h0 : Value} {r0 : Int} (e0 : Ent L (Rd 2 h0 (a0.map cTii))) (hm : F27 a0 = some r0) {w : World} (st : St B L w) : Calls Try.prog 27 #[h0] w (fun e w' => (e = .returned (I r0) ∧ St B (L) w')) := by
  refine calls_of (N := 13) (L := L) (args := [h0]) Try.func27 rfl rfl rfl ?_ st
  dsimp only [F27] at hm
  refine TC.k ?_
  refine TC.region ?_
  refine TO.s rfl rfl rfl (StepS.assign rfl) ?_
  refine TO.code ?_
  refine TC.k ?_
  refine TC.k ?_
  refine TC.region ?_
  refine TO.s rfl rfl rfl (StepS.move rfl) ?_
  refine TO.s rfl rfl rfl (StepS.lenm rfl e0 ksliceB_36_52_2_true rfl) ?_
  refine TO.s rfl rfl rfl (StepS.cmp rfl rfl rfl) ?_
  refine TO.code ?_
  refine TC.cond rfl (fun hc1 => ?_) (fun hc1 => ?_)
  · replace hm := cond_t hc1 hm
    refine TC.k ?_
    refine TC.region ?_
    refine TO.s rfl rfl rfl (StepS.assign rfl) ?_
    refine TO.code ?_
    cases hm
    refine TC.ret fun a w e s => ?_
    refine FRet.mk1 (P := Try.prog) (fn := Try.f27) (t := 2) e rfl rfl ?_
    exact ⟨rfl, s.mono fun _ => Sat.dropN 0⟩
  · replace hm := cond_f hc1 hm
    refine TC.skipk ?_
    refine TC.k ?_
    refine TC.region ?_
    refine TO.s rfl rfl rfl (StepS.move rfl) ?_
    refine TO.s rfl rfl rfl (StepS.move rfl) ?_
    refine TO.s rfl rfl rfl (StepS.lenm rfl e0 ksliceB_36_52_2_true rfl) ?_
    refine TO.s rfl rfl rfl (StepS.ari rfl rfl rfl) ?_
    obtain ⟨x2, hx3, hm⟩ := bind_some hm
    refine TO.s rfl rfl rfl (StepS.idx rfl rfl e0 ksliceB_36_52_2_true (idx_spec hx3).1 (idxm_lt hx3)) ?_
    refine TO.s rfl rfl rfl (StepS.ptrf rfl kfieldB_52_0_0_true) ?_
    refine TO.s rfl rfl rfl (StepS.ld1 rfl e0 kscalB_3_true rfl (idxm hx3) rfl) ?_
    refine TO.s rfl rfl rfl (StepS.assign rfl) ?_
    refine TO.code ?_
    cases hm
    refine TC.ret fun a w e s => ?_
    refine FRet.mk1 (P := Try.prog) (fn := Try.f27) (t := 2) e rfl rfl ?_
    exact ⟨rfl, s.mono fun _ => Sat.dropN 0⟩

set_option maxHeartbeats 1000000 in
set_option maxRecDepth 100000 in
theorem C16 {B : World} {L : List HP} {a0 : (List (Int × Int × Int × (List Int) × (List (Int × Int)) × Int × (List Int) × List Int)) × List (Int × Int)} {a1 : Int × Int × Int × Int} {a2 : Bool} {b0_ : Nat} {h0_1 : Value} {h0_2 : List (List Value)} {h0_3 : Value} {r0 : Int} {s0 : (List (Int × Int × Int × (List Int) × (List (Int × Int)) × Int × (List Int) × List Int)) × List (Int × Int)} (hm : F16 a0 a1 a2 = some (r0, s0)) {w : World} (st : St B (Bx b0_ 59 [h0_1, h0_3] :: SN 61 8 nT61 h0_1 h0_2 (a0.1) :: OwnS 79 2 h0_3 (a0.2.map cTii) :: L) w) : Calls Try.prog 16 #[.pointer (some ⟨b0_, 0, none⟩), .agg (cTiiii a1).toArray, .bool a2] w (fun e w' => ∃ v M, e = .returned v ∧ (∃ (qhs1 : List (List Value)) (qv2 : Value), v = I r0 ∧ M = (Bx b0_ 59 [h0_1, qv2] :: SN 61 8 nT61 h0_1 qhs1 (s0.1) :: OwnS 79 2 qv2 (s0.2.map cTii) :: L)) ∧ St B M w') := by
  refine calls_of (N := 478) (L := (Bx b0_ 59 [h0_1, h0_3] :: SN 61 8 nT61 h0_1 h0_2 (a0.1) :: OwnS 79 2 h0_3 (a0.2.map cTii) :: L)) (args := [.pointer (some ⟨b0_, 0, none⟩), .agg (cTiiii a1).toArray, .bool a2]) Try.func16 rfl rfl rfl ?_ st
  dsimp only [F16] at hm
  refine TC.k ?_
  refine TC.region ?_
  refine TO.box (cs := [I a1.1, I a1.2.1, I a1.2.2.1, I a1.2.2.2]) rfl rfl rfl fun b5 => ?_
  refine TO.s rfl rfl rfl (StepS.assign rfl) ?_
  refine TO.code ?_
  refine TC.k ?_
  refine TC.region ?_
  refine TO.s rfl rfl rfl (StepS.fld rfl kfieldB_45_0_0_true) ?_
  refine TO.s rfl rfl rfl (StepS.ldB rfl (Ent.at 0 rfl) kscalB_3_true rfl) ?_
  refine TO.s rfl rfl rfl (StepS.cmp rfl rfl rfl) ?_
  refine TO.s rfl rfl rfl (StepS.move rfl) ?_
  refine TO.mid1 4 23 (.bool ((a1.1 == 2) || (a1.1 == 3))) ?_ ?_
  · refine bcase ((a1.1 == 2)) (fun hb6 => ?_) (fun hb6 => ?_)
    · refine TO.skip rfl rfl rfl (skipT hb6) rfl rfl ?_
      refine TO.skip rfl rfl rfl (skipT hb6) rfl rfl ?_
      refine TO.skip rfl rfl rfl (skipT hb6) rfl rfl ?_
      refine TO.s rfl rfl rfl (StepS.pickT rfl hb6 rfl) ?_
      exact TO.up1 4 0 rfl rfl (by rw [hb6]; rfl) rfl
    · refine TO.sw rfl rfl rfl hb6 rfl rfl (StepS.fld rfl kfieldB_45_0_0_true) ?_
      refine TO.sw rfl rfl rfl hb6 rfl rfl (StepS.ldB rfl (Ent.at 0 rfl) kscalB_3_true rfl) ?_
      refine TO.sw rfl rfl rfl hb6 rfl rfl (StepS.cmp rfl rfl rfl) ?_
      refine TO.s rfl rfl rfl (StepS.pickF rfl hb6 rfl) ?_
      exact TO.up1 4 0 rfl rfl (by rw [hb6]; rfl) rfl
  refine TO.s rfl rfl rfl (StepS.assign rfl) ?_
  refine TO.code ?_
  refine TC.k ?_
  refine TC.k ?_
  refine TC.region ?_
  refine TO.s rfl rfl rfl (StepS.fld rfl kfieldB_45_0_0_true) ?_
  refine TO.s rfl rfl rfl (StepS.ldB rfl (Ent.at 0 rfl) kscalB_3_true rfl) ?_
  refine TO.s rfl rfl rfl (StepS.cmp rfl rfl rfl) ?_
  refine TO.s rfl rfl rfl (StepS.move rfl) ?_
  refine TO.mid1 4 31 (.bool ((decide (a1.1 < 1)) || (decide (a1.1 > 6)))) ?_ ?_
  · refine bcase ((decide (a1.1 < 1))) (fun hb7 => ?_) (fun hb7 => ?_)
    · refine TO.skip rfl rfl rfl (skipT hb7) rfl rfl ?_
      refine TO.skip rfl rfl rfl (skipT hb7) rfl rfl ?_
      refine TO.skip rfl rfl rfl (skipT hb7) rfl rfl ?_
      refine TO.s rfl rfl rfl (StepS.pickT rfl hb7 rfl) ?_
      exact TO.up1 4 0 rfl rfl (by rw [hb7]; rfl) rfl
    · refine TO.sw rfl rfl rfl hb7 rfl rfl (StepS.fld rfl kfieldB_45_0_0_true) ?_
      refine TO.sw rfl rfl rfl hb7 rfl rfl (StepS.ldB rfl (Ent.at 0 rfl) kscalB_3_true rfl) ?_
      refine TO.sw rfl rfl rfl hb7 rfl rfl (StepS.cmp rfl rfl rfl) ?_
      refine TO.s rfl rfl rfl (StepS.pickF rfl hb7 rfl) ?_
      exact TO.up1 4 0 rfl rfl (by rw [hb7]; rfl) rfl
  refine TO.s rfl rfl rfl (StepS.move rfl) ?_
  refine TO.mid1 13 45 (.bool (((decide (a1.1 < 1)) || (decide (a1.1 > 6))) || ((!a2) && ((a1.1 == 4) || (a1.1 == 5))))) ?_ ?_
  · refine bcase (((decide (a1.1 < 1)) || (decide (a1.1 > 6)))) (fun hb8 => ?_) (fun hb8 => ?_)
    · refine TO.skip rfl rfl rfl (skipT hb8) rfl rfl ?_
      refine TO.skip rfl rfl rfl (skipT hb8) rfl rfl ?_
      refine TO.skip rfl rfl rfl (skipT hb8) rfl rfl ?_
      refine TO.skip rfl rfl rfl skipU rfl rfl ?_
      refine TO.skip rfl rfl rfl skipU rfl rfl ?_
      refine TO.skip rfl rfl rfl skipU rfl rfl ?_
      refine TO.skip rfl rfl rfl skipU rfl rfl ?_
      refine TO.skip rfl rfl rfl skipU rfl rfl ?_
      refine TO.skip rfl rfl rfl skipU rfl rfl ?_
      refine TO.skip rfl rfl rfl skipU rfl rfl ?_
      refine TO.skip rfl rfl rfl skipU rfl rfl ?_
      refine TO.skip rfl rfl rfl (skipT hb8) rfl rfl ?_
      refine TO.s rfl rfl rfl (StepS.pickT rfl hb8 rfl) ?_
      exact TO.up1 13 0 rfl rfl (by rw [hb8]; rfl) rfl
    · refine TO.sw rfl rfl rfl hb8 rfl rfl (StepS.move rfl) ?_
      refine TO.sw rfl rfl rfl hb8 rfl rfl (StepS.not rfl) ?_
      refine TO.sw rfl rfl rfl hb8 rfl rfl (StepS.move rfl) ?_
      refine TO.mid1 9 44 (.bool ((!a2) && ((a1.1 == 4) || (a1.1 == 5)))) ?_ ?_
      · refine bcase ((!a2)) (fun hb9 => ?_) (fun hb9 => ?_)
        · refine TO.sw rfl rfl rfl hb9 rfl rfl (StepS.fld rfl kfieldB_45_0_0_true) ?_
          refine TO.sw rfl rfl rfl hb9 rfl rfl (StepS.ldB rfl (Ent.at 0 rfl) kscalB_3_true rfl) ?_
          refine TO.sw rfl rfl rfl hb9 rfl rfl (StepS.cmp rfl rfl rfl) ?_
          refine TO.sw rfl rfl rfl hb9 rfl rfl (StepS.move rfl) ?_
          refine TO.mid1 4 43 (.bool ((a1.1 == 4) || (a1.1 == 5))) ?_ ?_
          · refine bcase ((a1.1 == 4)) (fun hb10 => ?_) (fun hb10 => ?_)
            · refine TO.skip rfl rfl rfl (skipT hb10) rfl rfl ?_
              refine TO.skip rfl rfl rfl (skipT hb10) rfl rfl ?_
              refine TO.skip rfl rfl rfl (skipT hb10) rfl rfl ?_
              refine TO.sw rfl rfl rfl hb9 rfl rfl (StepS.pickT rfl hb10 rfl) ?_
              exact TO.up1 4 0 rfl rfl (by rw [hb10]; rfl) rfl
            · refine TO.sw rfl rfl rfl hb10 rfl rfl (StepS.fld rfl kfieldB_45_0_0_true) ?_
              refine TO.sw rfl rfl rfl hb10 rfl rfl (StepS.ldB rfl (Ent.at 0 rfl) kscalB_3_true rfl) ?_
              refine TO.sw rfl rfl rfl hb10 rfl rfl (StepS.cmp rfl rfl rfl) ?_
              refine TO.sw rfl rfl rfl hb9 rfl rfl (StepS.pickF rfl hb10 rfl) ?_
              exact TO.up1 4 0 rfl rfl (by rw [hb10]; rfl) rfl
          refine TO.sw rfl rfl rfl hb8 rfl rfl (StepS.pickT rfl hb9 rfl) ?_
          exact TO.up1 6 0 rfl rfl (by rw [hb9]; rfl) rfl
        · refine TO.skip rfl rfl rfl (skipF hb9) rfl rfl ?_
          refine TO.skip rfl rfl rfl (skipF hb9) rfl rfl ?_
          refine TO.skip rfl rfl rfl (skipF hb9) rfl rfl ?_
          refine TO.skip rfl rfl rfl (skipF hb9) rfl rfl ?_
          refine TO.skip rfl rfl rfl skipU rfl rfl ?_
          refine TO.skip rfl rfl rfl skipU rfl rfl ?_
          refine TO.skip rfl rfl rfl skipU rfl rfl ?_
          refine TO.skip rfl rfl rfl (skipF hb9) rfl rfl ?_
          refine TO.sw rfl rfl rfl hb8 rfl rfl (StepS.pickF rfl hb9 rfl) ?_
          exact TO.up1 9 0 rfl rfl (by rw [hb9]; rfl) rfl
      refine TO.s rfl rfl rfl (StepS.pickF rfl hb8 rfl) ?_
      exact TO.up1 5 0 rfl rfl (by rw [hb8]; rfl) rfl
  refine TO.code ?_
  refine TC.cond rfl (fun hc11 => ?_) (fun hc11 => ?_)
  · replace hm := cond_t hc11 hm
    refine TC.k ?_
    refine TC.region ?_
    refine TO.s rfl rfl rfl (StepS.assign rfl) ?_
    refine TO.code ?_
    cases hm
    refine TC.ret fun a w e s => ?_
    refine FRet.mk1 (P := Try.prog) (fn := Try.f16) (t := 6) e rfl rfl ?_
    refine ⟨_, _, rfl, ⟨(h0_2), (h0_3), rfl, rfl⟩, ?_⟩
    refine s.mono fun _ s => ?_
    replace s := Sat.front 3 rfl s
    replace s := Sat.front 3 rfl s
    replace s := Sat.front 3 rfl s
    replace s := Sat.erase 3 s
    exact s
  · replace hm := cond_f hc11 hm
    refine TC.skipk ?_
    refine TC.k ?_
    refine TC.k ?_
    refine TC.region_quiet kfollows_mixedOrders_true (by kernel_rfl) ?_
    refine TQ.s rfl rfl rfl (StepS.move rfl).q ?_
    refine TQ.s rfl rfl rfl (StepS.nilc rfl).q ?_
    refine TQ.s rfl rfl rfl (StepS.fld rfl kfieldB_59_0_0_true).q ?_
    refine TQ.s rfl rfl rfl (StepS.ldB rfl (Ent.at 1 rfl) kscalB_56_true rfl).q ?_
    refine TQ.s rfl rfl rfl (StepS.lenN rfl (Ent.at 2 rfl) ksliceB_56_61_8_true rfl).q ?_
    refine TQ.s rfl rfl rfl (StepS.ldBA rfl (Ent.at 0 rfl) kaggB_45_4_true rfl rfl).q ?_
    refine TQ.s rfl rfl rfl (StepS.move rfl).q ?_
    obtain ⟨r12, hc13, hm⟩ := bind_some hm
    refine TQ.s rfl rfl rfl (StepQ.call kcallB_24_true rfl rfl (fun _ st => C24  hc13 st)) ?_
    refine TQ.s rfl rfl rfl (StepS.not rfl).q ?_
    refine TQ.code ?_
    refine TC.cond rfl (fun hc14 => ?_) (fun hc14 => ?_)
    · replace hm := cond_t hc14 hm
      refine TC.k ?_
      refine TC.region ?_
      refine TO.s rfl rfl rfl (StepS.assign rfl) ?_
      refine TO.code ?_
      cases hm
      refine TC.ret fun a w e s => ?_
      refine FRet.mk1 (P := Try.prog) (fn := Try.f16) (t := 6) e rfl rfl ?_
      refine ⟨_, _, rfl, ⟨(h0_2), (h0_3), rfl, rfl⟩, ?_⟩
      refine s.mono fun _ s => ?_
      replace s := Sat.front 3 rfl s
      replace s := Sat.front 3 rfl s
      replace s := Sat.front 3 rfl s
      replace s := Sat.erase 3 s
      exact s
    · replace hm := cond_f hc14 hm
      refine TC.skipk ?_
      refine TC.k ?_
      refine TC.region_still kfollows_mixedOrders_true (by kernel_rfl) ?_
      refine TS.s rfl rfl rfl (StepS.move rfl) ?_
      refine TS.s rfl rfl rfl (StepS.nilc rfl) ?_
      refine TS.s rfl rfl rfl (StepS.fld rfl kfieldB_59_0_0_true) ?_
      refine TS.s rfl rfl rfl (StepS.ldB rfl (Ent.at 1 rfl) kscalB_56_true rfl) ?_
      refine TS.s rfl rfl rfl (StepS.fld rfl kfieldB_45_1_1_true) ?_
      refine TS.s rfl rfl rfl (StepS.ldB rfl (Ent.at 0 rfl) kscalB_3_true rfl) ?_
      obtain ⟨x15, hx16, hm⟩ := bind_some hm
      refine TS.s rfl rfl rfl (StepS.idxN rfl rfl (Ent.at 2 rfl) ksliceB_56_61_8_true hx16) ?_
      refine TS.s rfl rfl rfl (StepS.assign rfl) ?_
      refine TS.code ?_
      refine TC.k ?_
      refine TC.k ?_
      refine TC.region ?_
      refine TO.s rfl rfl rfl (StepS.fld rfl kfieldB_45_0_0_true) ?_
      refine TO.s rfl rfl rfl (StepS.ldB rfl (Ent.at 0 rfl) kscalB_3_true rfl) ?_
      refine TO.code ?_
      refine TC.block ?_
      refine TC.k ?_
      refine TC.region ?_
      refine TO.s rfl rfl rfl (StepS.cmp rfl rfl rfl) ?_
      refine TO.s rfl rfl rfl (StepS.assign rfl) ?_
      refine TO.code ?_
      refine TC.cond rfl (fun hc17 => ?_) (fun hc17 => ?_)
      · replace hm := cond_t hc17 hm
        refine TC.k ?_
        refine TC.k ?_
        refine TC.region ?_
        refine TO.s rfl rfl rfl (StepS.move rfl) ?_
        refine TO.s rfl rfl rfl (StepS.nilc rfl) ?_
        refine TO.s rfl rfl rfl (StepS.ptrf rfl kfieldB_61_1_1_true) ?_
        refine TO.s rfl rfl rfl (StepS.ldN (j := 1) rfl (Ent.at 2 rfl) kscalB_3_true hx16 rfl rfl) ?_
        refine TO.s rfl rfl rfl (StepS.cmp rfl rfl rfl) ?_
        refine TO.code ?_
        refine TC.cond rfl (fun hc18 => ?_) (fun hc18 => ?_)
        · replace hm := cond_t hc18 hm
          refine TC.k ?_
          refine TC.region ?_
          refine TO.s rfl rfl rfl (StepS.assign rfl) ?_
          refine TO.code ?_
          cases hm
          refine TC.ret fun a w e s => ?_
          refine FRet.mk1 (P := Try.prog) (fn := Try.f16) (t := 6) e rfl rfl ?_
          refine ⟨_, _, rfl, ⟨(h0_2), (h0_3), rfl, rfl⟩, ?_⟩
          refine s.mono fun _ s => ?_
          replace s := Sat.front 3 rfl s
          replace s := Sat.front 3 rfl s
          replace s := Sat.front 3 rfl s
          replace s := Sat.erase 3 s
          exact s
        · replace hm := cond_f hc18 hm
          refine TC.skipk ?_
          refine TC.k ?_
          refine TC.region ?_
          refine TO.s rfl rfl rfl (StepS.move rfl) ?_
          refine TO.s rfl rfl rfl (StepS.move rfl) ?_
          refine TO.s rfl rfl rfl (StepS.nilc rfl) ?_
          refine TO.s rfl rfl rfl (StepS.ptrf rfl kfieldB_61_0_0_true) ?_
          refine TO.s rfl rfl rfl (StepS.ldN (j := 0) rfl (Ent.at 2 rfl) kscalB_3_true hx16 rfl rfl) ?_
          refine TO.s rfl rfl rfl (StepS.ari rfl rfl rfl) ?_
          refine TO.s rfl rfl rfl (StepS.nilc rfl) ?_
          refine TO.s rfl rfl rfl (StepS.ptrf rfl kfieldB_61_0_0_true) ?_
          refine TO.ghost (fun _ s => Sat.front 2 rfl s) ?_
          refine TO.openN (L' := (OwnS 3 1 (cv (gr h0_2 a1.2.1.toNat) 0) (x15.2.2.2.1.map cI) :: OwnS 52 2 (cv (gr h0_2 a1.2.1.toNat) 1) (x15.2.2.2.2.1.map cTii) :: OwnS 3 1 (cv (gr h0_2 a1.2.1.toNat) 2) (x15.2.2.2.2.2.2.1.map cI) :: OwnS 3 1 (cv (gr h0_2 a1.2.1.toNat) 3) (x15.2.2.2.2.2.2.2.map cI) :: SNh 61 8 nT61 h0_1 h0_2 (a0.1) a1.2.1.toNat [I x15.1, I x15.2.1, I x15.2.2.1, (cv (gr h0_2 a1.2.1.toNat) 0), (cv (gr h0_2 a1.2.1.toNat) 1), I x15.2.2.2.2.2.1, (cv (gr h0_2 a1.2.1.toNat) 2), (cv (gr h0_2 a1.2.1.toNat) 3)] :: Bx b5 45 [I a1.1, I a1.2.1, I a1.2.2.1, I a1.2.2.2] :: Bx b0_ 59 [h0_1, h0_3] :: OwnS 79 2 h0_3 (a0.2.map cTii) :: L)) rfl hx16 rfl ?_
          refine TO.ghost (fun _ s => Sat.front 4 rfl s) ?_
          refine TO.stNh (i := a1.2.1) (off := 0) (us := [I (w64 (x15.1 + 1))]) (cs' := [I (w64 (x15.1 + 1)), I x15.2.1, I x15.2.2.1, (cv (gr h0_2 a1.2.1.toNat) 0), (cv (gr h0_2 a1.2.1.toNat) 1), I x15.2.2.2.2.2.1, (cv (gr h0_2 a1.2.1.toNat) 2), (cv (gr h0_2 a1.2.1.toNat) 3)]) rfl rfl ksizeB_3_1_true rfl rfl rfl hx16 rfl (by simp [Value.oneCell']) rfl ?_
          refine TO.ghost (fun _ s => Sat.front 4 rfl s) ?_
          refine TO.ghost (fun _ s => Sat.front 4 rfl s) ?_
          refine TO.ghost (fun _ s => Sat.front 4 rfl s) ?_
          refine TO.ghost (fun _ s => Sat.front 4 rfl s) ?_
          obtain ⟨y24, hy25, hm⟩ := bind_some hm
          refine TO.closeN (T := nT61) (cs := [I (w64 (x15.1 + 1)), I x15.2.1, I x15.2.2.1, (cv (gr h0_2 a1.2.1.toNat) 0), (cv (gr h0_2 a1.2.1.toNat) 1), I x15.2.2.2.2.2.1, (cv (gr h0_2 a1.2.1.toNat) 2), (cv (gr h0_2 a1.2.1.toNat) 3)]) [(cv (gr h0_2 a1.2.1.toNat) 0), (cv (gr h0_2 a1.2.1.toNat) 1), (cv (gr h0_2 a1.2.1.toNat) 2), (cv (gr h0_2 a1.2.1.toNat) 3)] (w64 (x15.1 + 1), x15.2.1, x15.2.2.1, x15.2.2.2.1, x15.2.2.2.2.1, x15.2.2.2.2.2.1, x15.2.2.2.2.2.2.1, x15.2.2.2.2.2.2.2) rfl rfl hx16 (Option.some.inj hy25) fun hs23 => ?_
          refine TO.code ?_
          refine TC.k ?_
          refine TC.region ?_
          refine TO.s rfl rfl rfl (StepS.move rfl) ?_
          refine TO.s rfl rfl rfl (StepS.nilc rfl) ?_
          refine TO.s rfl rfl rfl (StepS.ptrf rfl kfieldB_61_1_1_true) ?_
          obtain ⟨x26, hx27, hm⟩ := bind_some hm
          refine TO.openN (L' := (OwnS 3 1 (cv (gr hs23 a1.2.1.toNat) 0) (x26.2.2.2.1.map cI) :: OwnS 52 2 (cv (gr hs23 a1.2.1.toNat) 1) (x26.2.2.2.2.1.map cTii) :: OwnS 3 1 (cv (gr hs23 a1.2.1.toNat) 2) (x26.2.2.2.2.2.2.1.map cI) :: OwnS 3 1 (cv (gr hs23 a1.2.1.toNat) 3) (x26.2.2.2.2.2.2.2.map cI) :: SNh 61 8 nT61 h0_1 hs23 (y24) a1.2.1.toNat [I x26.1, I x26.2.1, I x26.2.2.1, (cv (gr hs23 a1.2.1.toNat) 0), (cv (gr hs23 a1.2.1.toNat) 1), I x26.2.2.2.2.2.1, (cv (gr hs23 a1.2.1.toNat) 2), (cv (gr hs23 a1.2.1.toNat) 3)] :: Bx b5 45 [I a1.1, I a1.2.1, I a1.2.2.1, I a1.2.2.2] :: Bx b0_ 59 [h0_1, h0_3] :: OwnS 79 2 h0_3 (a0.2.map cTii) :: L)) rfl hx27 rfl ?_
          refine TO.ghost (fun _ s => Sat.front 4 rfl s) ?_
          refine TO.stNh (i := a1.2.1) (off := 1) (us := [I 1]) (cs' := [I x26.1, I 1, I x26.2.2.1, (cv (gr hs23 a1.2.1.toNat) 0), (cv (gr hs23 a1.2.1.toNat) 1), I x26.2.2.2.2.2.1, (cv (gr hs23 a1.2.1.toNat) 2), (cv (gr hs23 a1.2.1.toNat) 3)]) rfl rfl ksizeB_3_1_true rfl rfl rfl hx27 rfl (by simp [Value.oneCell']) rfl ?_
          refine TO.ghost (fun _ s => Sat.front 4 rfl s) ?_
          refine TO.ghost (fun _ s => Sat.front 4 rfl s) ?_
          refine TO.ghost (fun _ s => Sat.front 4 rfl s) ?_
          refine TO.ghost (fun _ s => Sat.front 4 rfl s) ?_
          obtain ⟨y33, hy34, hm⟩ := bind_some hm
          refine TO.closeN (T := nT61) (cs := [I x26.1, I 1, I x26.2.2.1, (cv (gr hs23 a1.2.1.toNat) 0), (cv (gr hs23 a1.2.1.toNat) 1), I x26.2.2.2.2.2.1, (cv (gr hs23 a1.2.1.toNat) 2), (cv (gr hs23 a1.2.1.toNat) 3)]) [(cv (gr hs23 a1.2.1.toNat) 0), (cv (gr hs23 a1.2.1.toNat) 1), (cv (gr hs23 a1.2.1.toNat) 2), (cv (gr hs23 a1.2.1.toNat) 3)] (x26.1, 1, x26.2.2.1, x26.2.2.2.1, x26.2.2.2.2.1, x26.2.2.2.2.2.1, x26.2.2.2.2.2.2.1, x26.2.2.2.2.2.2.2) rfl rfl hx27 (Option.some.inj hy34) fun hs32 => ?_
          refine TO.code ?_
          refine TC.k ?_
          refine TC.region ?_
          refine TO.s rfl rfl rfl (StepS.move rfl) ?_
          refine TO.s rfl rfl rfl (StepS.fld rfl kfieldB_45_1_1_true) ?_
          refine TO.s rfl rfl rfl (StepS.ldB rfl (Ent.at 1 rfl) kscalB_3_true rfl) ?_
          refine TO.s rfl rfl rfl (StepS.nilc rfl) ?_
          refine TO.s rfl rfl rfl (StepS.ptrf rfl kfieldB_61_2_2_true) ?_
          obtain ⟨x35, hx36, hm⟩ := bind_some hm
          refine TO.openN (L' := (OwnS 3 1 (cv (gr hs32 a1.2.1.toNat) 0) (x35.2.2.2.1.map cI) :: OwnS 52 2 (cv (gr hs32 a1.2.1.toNat) 1) (x35.2.2.2.2.1.map cTii) :: OwnS 3 1 (cv (gr hs32 a1.2.1.toNat) 2) (x35.2.2.2.2.2.2.1.map cI) :: OwnS 3 1 (cv (gr hs32 a1.2.1.toNat) 3) (x35.2.2.2.2.2.2.2.map cI) :: SNh 61 8 nT61 h0_1 hs32 (y33) a1.2.1.toNat [I x35.1, I x35.2.1, I x35.2.2.1, (cv (gr hs32 a1.2.1.toNat) 0), (cv (gr hs32 a1.2.1.toNat) 1), I x35.2.2.2.2.2.1, (cv (gr hs32 a1.2.1.toNat) 2), (cv (gr hs32 a1.2.1.toNat) 3)] :: Bx b5 45 [I a1.1, I a1.2.1, I a1.2.2.1, I a1.2.2.2] :: Bx b0_ 59 [h0_1, h0_3] :: OwnS 79 2 h0_3 (a0.2.map cTii) :: L)) rfl hx36 rfl ?_
          refine TO.ghost (fun _ s => Sat.front 4 rfl s) ?_
          refine TO.stNh (i := a1.2.1) (off := 2) (us := [I a1.2.1]) (cs' := [I x35.1, I x35.2.1, I a1.2.1, (cv (gr hs32 a1.2.1.toNat) 0), (cv (gr hs32 a1.2.1.toNat) 1), I x35.2.2.2.2.2.1, (cv (gr hs32 a1.2.1.toNat) 2), (cv (gr hs32 a1.2.1.toNat) 3)]) rfl rfl ksizeB_3_1_true rfl rfl rfl hx36 rfl (by simp [Value.oneCell']) rfl ?_
          refine TO.ghost (fun _ s => Sat.front 4 rfl s) ?_
          refine TO.ghost (fun _ s => Sat.front 4 rfl s) ?_
          refine TO.ghost (fun _ s => Sat.front 4 rfl s) ?_
          refine TO.ghost (fun _ s => Sat.front 4 rfl s) ?_
          obtain ⟨y42, hy43, hm⟩ := bind_some hm
          refine TO.closeN (T := nT61) (cs := [I x35.1, I x35.2.1, I a1.2.1, (cv (gr hs32 a1.2.1.toNat) 0), (cv (gr hs32 a1.2.1.toNat) 1), I x35.2.2.2.2.2.1, (cv (gr hs32 a1.2.1.toNat) 2), (cv (gr hs32 a1.2.1.toNat) 3)]) [(cv (gr hs32 a1.2.1.toNat) 0), (cv (gr hs32 a1.2.1.toNat) 1), (cv (gr hs32 a1.2.1.toNat) 2), (cv (gr hs32 a1.2.1.toNat) 3)] (x35.1, x35.2.1, a1.2.1, x35.2.2.2.1, x35.2.2.2.2.1, x35.2.2.2.2.2.1, x35.2.2.2.2.2.2.1, x35.2.2.2.2.2.2.2) rfl rfl hx36 (Option.some.inj hy43) fun hs41 => ?_
          refine TO.code ?_
          refine TC.k ?_
          refine TC.region ?_
          refine TO.s rfl rfl rfl (StepS.move rfl) ?_
          refine TO.s rfl rfl rfl (StepS.nilc rfl) ?_
          refine TO.s rfl rfl rfl (StepS.ptrf rfl kfieldB_61_3_3_true) ?_
          refine TO.ghost (fun _ => Sat.nilS (e := 3) (sz := 1) (f := cI)) ?_
          obtain ⟨x45, hx46, hm⟩ := bind_some hm
          refine TO.ghost (fun _ s => Sat.front 1 rfl s) ?_
          refine TO.openN (L' := (OwnS 3 1 (cv (gr hs41 a1.2.1.toNat) 0) (x45.2.2.2.1.map cI) :: OwnS 52 2 (cv (gr hs41 a1.2.1.toNat) 1) (x45.2.2.2.2.1.map cTii) :: OwnS 3 1 (cv (gr hs41 a1.2.1.toNat) 2) (x45.2.2.2.2.2.2.1.map cI) :: OwnS 3 1 (cv (gr hs41 a1.2.1.toNat) 3) (x45.2.2.2.2.2.2.2.map cI) :: SNh 61 8 nT61 h0_1 hs41 (y42) a1.2.1.toNat [I x45.1, I x45.2.1, I x45.2.2.1, (cv (gr hs41 a1.2.1.toNat) 0), (cv (gr hs41 a1.2.1.toNat) 1), I x45.2.2.2.2.2.1, (cv (gr hs41 a1.2.1.toNat) 2), (cv (gr hs41 a1.2.1.toNat) 3)] :: OwnS 3 1 (.slice none 0 0) (([] : List (Int)).map cI) :: Bx b5 45 [I a1.1, I a1.2.1, I a1.2.2.1, I a1.2.2.2] :: Bx b0_ 59 [h0_1, h0_3] :: OwnS 79 2 h0_3 (a0.2.map cTii) :: L)) rfl hx46 rfl ?_
          refine TO.pure (fun _ s => Rd.one (OwnS.rd (Ent.at 5 rfl)) s) fun oc51 => ?_
          refine TO.ghost (fun _ s => Sat.front 4 rfl s) ?_
          refine TO.stNh (i := a1.2.1) (off := 3) (us := [(.slice none 0 0)]) (cs' := [I x45.1, I x45.2.1, I x45.2.2.1, (.slice none 0 0), (cv (gr hs41 a1.2.1.toNat) 1), I x45.2.2.2.2.2.1, (cv (gr hs41 a1.2.1.toNat) 2), (cv (gr hs41 a1.2.1.toNat) 3)]) rfl rfl ksizeB_24_1_true oc51.2 rfl rfl hx46 rfl (by intro u hu; simp only [List.mem_cons, List.not_mem_nil, or_false] at hu; rcases hu with rfl <;> first | exact oc51.1 | rfl) rfl ?_
          refine TO.ghost (fun _ s => Sat.front 4 rfl s) ?_
          refine TO.ghost (fun _ s => Sat.front 4 rfl s) ?_
          refine TO.ghost (fun _ s => Sat.front 4 rfl s) ?_
          refine TO.ghost (fun _ s => Sat.front 5 rfl s) ?_
          obtain ⟨y53, hy54, hm⟩ := bind_some hm
          refine TO.closeN (T := nT61) (cs := [I x45.1, I x45.2.1, I x45.2.2.1, (.slice none 0 0), (cv (gr hs41 a1.2.1.toNat) 1), I x45.2.2.2.2.2.1, (cv (gr hs41 a1.2.1.toNat) 2), (cv (gr hs41 a1.2.1.toNat) 3)]) [(.slice none 0 0), (cv (gr hs41 a1.2.1.toNat) 1), (cv (gr hs41 a1.2.1.toNat) 2), (cv (gr hs41 a1.2.1.toNat) 3)] (x45.1, x45.2.1, x45.2.2.1, ([] : List (Int)), x45.2.2.2.2.1, x45.2.2.2.2.2.1, x45.2.2.2.2.2.2.1, x45.2.2.2.2.2.2.2) rfl rfl hx46 (Option.some.inj hy54) fun hs52 => ?_
          refine TO.code ?_
          refine TC.region ?_
          refine TO.s rfl rfl rfl (StepS.move rfl) ?_
          refine TO.s rfl rfl rfl (StepS.fld rfl kfieldB_45_1_1_true) ?_
          refine TO.s rfl rfl rfl (StepS.ldB rfl (Ent.at 2 rfl) kscalB_3_true rfl) ?_
          refine TO.s rfl rfl rfl (StepS.fld rfl kfieldB_45_1_1_true) ?_
          refine TO.s rfl rfl rfl (StepS.ldB rfl (Ent.at 2 rfl) kscalB_3_true rfl) ?_
          refine TO.ghost (fun _ s => Sat.front 4 rfl s) ?_
          refine TO.ghost (fun _ s => Sat.front 1 rfl s) ?_
          refine TO.ghost (fun _ s => Sat.front 4 rfl s) ?_
          obtain ⟨r55, hc56, hm⟩ := bind_some hm
          refine TO.callO kcallB_25_true rfl rfl rfl (fun _ st => C25 (a0 := (y53, a0.2))  hc56 st) ?_
          rintro _ _ ⟨hs57, v59, rfl, rfl⟩
          refine TO.code ?_
          refine TC.k ?_
          refine TC.region ?_
          refine TO.s rfl rfl rfl (StepS.assign rfl) ?_
          refine TO.code ?_
          cases hm
          refine TC.ret fun a w e s => ?_
          refine FRet.mk1 (P := Try.prog) (fn := Try.f16) (t := 6) e rfl rfl ?_
          refine ⟨_, _, rfl, ⟨(hs57), (v59), rfl, rfl⟩, ?_⟩
          refine s.mono fun _ s => ?_
          replace s := Sat.front 2 rfl s
          replace s := Sat.front 2 rfl s
          replace s := Sat.front 2 rfl s
          replace s := Sat.erase 3 s
          replace s := Sat.erase 3 s
          exact s
      · replace hm := cond_f hc17 hm
        refine TC.k ?_
        refine TC.region ?_
        refine TO.s rfl rfl rfl (StepS.cmp rfl rfl rfl) ?_
        refine TO.s rfl rfl rfl (StepS.assign rfl) ?_
        refine TO.code ?_
        refine TC.cond rfl (fun hc61 => ?_) (fun hc61 => ?_)
        · replace hm := cond_t hc61 hm
          refine TC.k ?_
          refine TC.region_still kfollows_mixedOrders_true (by kernel_rfl) ?_
          refine TS.s rfl rfl rfl (StepS.move rfl) ?_
          refine TS.s rfl rfl rfl (StepS.nilc rfl) ?_
          refine TS.s rfl rfl rfl (StepS.fld rfl kfieldB_59_0_0_true) ?_
          refine TS.s rfl rfl rfl (StepS.ldB rfl (Ent.at 1 rfl) kscalB_56_true rfl) ?_
          refine TS.s rfl rfl rfl (StepS.fld rfl kfieldB_45_2_2_true) ?_
          refine TS.s rfl rfl rfl (StepS.ldB rfl (Ent.at 0 rfl) kscalB_3_true rfl) ?_
          obtain ⟨x62, hx63, hm⟩ := bind_some hm
          refine TS.s rfl rfl rfl (StepS.idxN rfl rfl (Ent.at 2 rfl) ksliceB_56_61_8_true hx63) ?_
          refine TS.s rfl rfl rfl (StepS.assign rfl) ?_
          refine TS.code ?_
          refine TC.k ?_
          refine TC.k ?_
          refine TC.region ?_
          refine TO.s rfl rfl rfl (StepS.move rfl) ?_
          refine TO.s rfl rfl rfl (StepS.nilc rfl) ?_
          refine TO.s rfl rfl rfl (StepS.ptrf rfl kfieldB_61_1_1_true) ?_
          refine TO.s rfl rfl rfl (StepS.ldN (j := 1) rfl (Ent.at 2 rfl) kscalB_3_true hx63 rfl rfl) ?_
          refine TO.s rfl rfl rfl (StepS.cmp rfl rfl rfl) ?_
          refine TO.code ?_
          refine TC.cond rfl (fun hc64 => ?_) (fun hc64 => ?_)
          · replace hm := cond_t hc64 hm
            refine TC.k ?_
            refine TC.region ?_
            refine TO.s rfl rfl rfl (StepS.assign rfl) ?_
            refine TO.code ?_
            cases hm
            refine TC.ret fun a w e s => ?_
            refine FRet.mk1 (P := Try.prog) (fn := Try.f16) (t := 6) e rfl rfl ?_
            refine ⟨_, _, rfl, ⟨(h0_2), (h0_3), rfl, rfl⟩, ?_⟩
            refine s.mono fun _ s => ?_
            replace s := Sat.front 3 rfl s
            replace s := Sat.front 3 rfl s
            replace s := Sat.front 3 rfl s
            replace s := Sat.erase 3 s
            exact s
          · replace hm := cond_f hc64 hm
            refine TC.skipk ?_
            refine TC.k ?_
            refine TC.region_tail 7 kfollows_mixedOrders_true (by kernel_rfl) ?_
            refine TS.s rfl rfl rfl (StepS.move rfl) ?_
            refine TS.s rfl rfl rfl (StepS.fld rfl kfieldB_45_1_1_true) ?_
            refine TS.s rfl rfl rfl (StepS.ldB rfl (Ent.at 0 rfl) kscalB_3_true rfl) ?_
            refine TS.s rfl rfl rfl (StepS.move rfl) ?_
            refine TS.s rfl rfl rfl (StepS.nilc rfl) ?_
            refine TS.s rfl rfl rfl (StepS.ptrf rfl kfieldB_61_0_0_true) ?_
            refine TS.s rfl rfl rfl (StepS.ldN (j := 0) rfl (Ent.at 2 rfl) kscalB_3_true hx63 rfl rfl) ?_
            refine TS.nil ?_
            refine TO.at ?_
            refine TO.ghost (fun _ s => Sat.front 2 rfl s) ?_
            refine TO.ghost (fun _ s => Sat.front 2 rfl s) ?_
            obtain ⟨r65, hc66, hm⟩ := bind_some hm
            refine TO.callO kcallB_26_true rfl rfl rfl (fun _ st => C26 (a0 := a0.1)  hc66 st) ?_
            rintro _ _ ⟨hs67, rfl, rfl⟩
            refine TO.code ?_
            refine TC.k ?_
            refine TC.k ?_
            refine TC.region_still kfollows_mixedOrders_true (by kernel_rfl) ?_
            refine TS.s rfl rfl rfl (StepS.move rfl) ?_
            refine TS.s rfl rfl rfl (StepS.nilc rfl) ?_
            refine TS.s rfl rfl rfl (StepS.ptrf rfl kfieldB_61_0_0_true) ?_
            obtain ⟨x69, hx70, hm⟩ := bind_some hm
            refine TS.s rfl rfl rfl (StepS.ldN (j := 0) rfl (Ent.at 1 rfl) kscalB_3_true hx70 rfl rfl) ?_
            refine TS.s rfl rfl rfl (StepS.move rfl) ?_
            refine TS.s rfl rfl rfl (StepS.nilc rfl) ?_
            refine TS.s rfl rfl rfl (StepS.ptrf rfl kfieldB_61_0_0_true) ?_
            obtain ⟨x71, hx72, hm⟩ := bind_some hm
            refine TS.s rfl rfl rfl (StepS.ldN (j := 0) rfl (Ent.at 1 rfl) kscalB_3_true hx72 rfl rfl) ?_
            refine TS.s rfl rfl rfl (StepS.cmp rfl rfl rfl) ?_
            refine TS.code ?_
            refine TC.cond rfl (fun hc73 => ?_) (fun hc73 => ?_)
            · replace hm := cond_t hc73 hm
              refine TC.k ?_
              refine TC.region_tail 7 kfollows_mixedOrders_true (by kernel_rfl) ?_
              refine TS.s rfl rfl rfl (StepS.move rfl) ?_
              refine TS.s rfl rfl rfl (StepS.fld rfl kfieldB_45_2_2_true) ?_
              refine TS.s rfl rfl rfl (StepS.ldB rfl (Ent.at 2 rfl) kscalB_3_true rfl) ?_
              refine TS.s rfl rfl rfl (StepS.move rfl) ?_
              refine TS.s rfl rfl rfl (StepS.nilc rfl) ?_
              refine TS.s rfl rfl rfl (StepS.ptrf rfl kfieldB_61_0_0_true) ?_
              obtain ⟨x74, hx75, hm⟩ := bind_some hm
              refine TS.s rfl rfl rfl (StepS.ldN (j := 0) rfl (Ent.at 1 rfl) kscalB_3_true hx75 rfl rfl) ?_
              refine TS.nil ?_
              refine TO.at ?_
              refine TO.ghost (fun _ s => Sat.front 1 rfl s) ?_
              refine TO.ghost (fun _ s => Sat.front 1 rfl s) ?_
              obtain ⟨r76, hc77, hm⟩ := bind_some hm
              refine TO.callO kcallB_26_true rfl rfl rfl (fun _ st => C26 (a0 := r65)  hc77 st) ?_
              rintro _ _ ⟨hs78, rfl, rfl⟩
              refine TO.code ?_
              refine TC.k ?_
              refine TC.region ?_
              refine TO.s rfl rfl rfl (StepS.assign rfl) ?_
              refine TO.code ?_
              cases hm
              refine TC.ret fun a w e s => ?_
              refine FRet.mk1 (P := Try.prog) (fn := Try.f16) (t := 6) e rfl rfl ?_
              refine ⟨_, _, rfl, ⟨(hs78), (h0_3), rfl, rfl⟩, ?_⟩
              refine s.mono fun _ s => ?_
              replace s := Sat.front 3 rfl s
              replace s := Sat.front 2 rfl s
              replace s := Sat.front 2 rfl s
              replace s := Sat.erase 3 s
              exact s
            · replace hm := cond_f hc73 hm
              refine TC.skipk ?_
              refine TC.k ?_
              refine TC.k ?_
              refine TC.region_still kfollows_mixedOrders_true (by kernel_rfl) ?_
              refine TS.s rfl rfl rfl (StepS.move rfl) ?_
              refine TS.s rfl rfl rfl (StepS.nilc rfl) ?_
              refine TS.s rfl rfl rfl (StepS.ptrf rfl kfieldB_61_2_2_true) ?_
              obtain ⟨x80, hx81, hm⟩ := bind_some hm
              refine TS.s rfl rfl rfl (StepS.ldN (j := 2) rfl (Ent.at 1 rfl) kscalB_3_true hx81 rfl rfl) ?_
              refine TS.s rfl rfl rfl (StepS.cmp rfl rfl rfl) ?_
              refine TS.s rfl rfl rfl (StepS.move rfl) ?_
              obtain ⟨b83, hj84, hm⟩ := bind_some hm
              refine TS.mid1 8 148 (.bool b83) ?_ ?_
              · refine bcase ((decide (x80.2.2.1 ≥ 0))) (fun hb82 => ?_) (fun hb82 => ?_)
                · replace hj84 := cond_t hb82 hj84
                  refine TS.sw rfl rfl rfl hb82 rfl rfl (StepS.move rfl) ?_
                  refine TS.sw rfl rfl rfl hb82 rfl rfl (StepS.nilc rfl) ?_
                  refine TS.sw rfl rfl rfl hb82 rfl rfl (StepS.ptrf rfl kfieldB_61_2_2_true) ?_
                  obtain ⟨x85, hx86, hj84⟩ := bind_some hj84
                  refine TS.sw rfl rfl rfl hb82 rfl rfl (StepS.ldN (j := 2) rfl (Ent.at 1 rfl) kscalB_3_true hx86 rfl rfl) ?_
                  refine TS.sw rfl rfl rfl hb82 rfl rfl (StepS.fld rfl kfieldB_45_2_2_true) ?_
                  refine TS.sw rfl rfl rfl hb82 rfl rfl (StepS.ldB rfl (Ent.at 2 rfl) kscalB_3_true rfl) ?_
                  refine TS.sw rfl rfl rfl hb82 rfl rfl (StepS.cmp rfl rfl rfl) ?_
                  cases hj84
                  refine TS.s rfl rfl rfl (StepS.pickT rfl hb82 rfl) ?_
                  exact TS.up1 8 0 rfl rfl rfl rfl
                · replace hj84 := cond_f hb82 hj84
                  cases hj84
                  refine TS.skip rfl rfl rfl (skipF hb82) rfl rfl ?_
                  refine TS.skip rfl rfl rfl (skipF hb82) rfl rfl ?_
                  refine TS.skip rfl rfl rfl (skipF hb82) rfl rfl ?_
                  refine TS.skip rfl rfl rfl (skipF hb82) rfl rfl ?_
                  refine TS.skip rfl rfl rfl (skipF hb82) rfl rfl ?_
                  refine TS.skip rfl rfl rfl (skipF hb82) rfl rfl ?_
                  refine TS.skip rfl rfl rfl (skipF hb82) rfl rfl ?_
                  refine TS.s rfl rfl rfl (StepS.pickF rfl hb82 rfl) ?_
                  exact TS.up1 8 0 rfl rfl rfl rfl
              refine TS.code ?_
              refine TC.cond rfl (fun hc87 => ?_) (fun hc87 => ?_)
              · replace hm := cond_t hc87 hm
                refine TC.k ?_
                refine TC.region ?_
                refine TO.s rfl rfl rfl (StepS.assign rfl) ?_
                refine TO.code ?_
                cases hm
                refine TC.ret fun a w e s => ?_
                refine FRet.mk1 (P := Try.prog) (fn := Try.f16) (t := 6) e rfl rfl ?_
                refine ⟨_, _, rfl, ⟨(hs67), (h0_3), rfl, rfl⟩, ?_⟩
                refine s.mono fun _ s => ?_
                replace s := Sat.front 3 rfl s
                replace s := Sat.front 2 rfl s
                replace s := Sat.front 2 rfl s
                replace s := Sat.erase 3 s
                exact s
              · replace hm := cond_f hc87 hm
                refine TC.skipk ?_
                refine TC.k ?_
                refine TC.k ?_
                refine TC.region_quiet kfollows_mixedOrders_true (by kernel_rfl) ?_
                refine TQ.s rfl rfl rfl (StepS.move rfl).q ?_
                refine TQ.s rfl rfl rfl (StepS.move rfl).q ?_
                obtain ⟨b89, hj90, hm⟩ := bind_some hm
                refine TQ.mid1 38 188 (.bool b89) ?_ ?_
                · refine bcase (a2) (fun hb88 => ?_) (fun hb88 => ?_)
                  · replace hj90 := cond_t hb88 hj90
                    refine TQ.sw rfl rfl rfl hb88 rfl rfl (StepS.move rfl).q ?_
                    refine TQ.sw rfl rfl rfl hb88 rfl rfl (StepS.nilc rfl).q ?_
                    refine TQ.sw rfl rfl rfl hb88 rfl rfl (StepS.ptrf rfl kfieldB_61_4_4_true).q ?_
                    obtain ⟨x91, hx92, hj90⟩ := bind_some hj90
                    refine TQ.sw rfl rfl rfl hb88 rfl rfl (StepS.ldN (j := 4) rfl (Ent.at 1 rfl) kscalB_36_true hx92 rfl rfl).q ?_
                    obtain ⟨r93, hc94, hj90⟩ := bind_some hj90
                    refine TQ.sw rfl rfl rfl hb88 rfl rfl (StepQ.call kcallB_27_true rfl rfl (fun _ st => C27 (OwnS.rd (SN.piece (Ent.at 1 rfl) hx92 1 rfl)) hc94 st)) ?_
                    refine TQ.sw rfl rfl rfl hb88 rfl rfl (StepS.move rfl).q ?_
                    refine TQ.sw rfl rfl rfl hb88 rfl rfl (StepS.nilc rfl).q ?_
                    refine TQ.sw rfl rfl rfl hb88 rfl rfl (StepS.ptrf rfl kfieldB_61_4_4_true).q ?_
                    obtain ⟨x95, hx96, hj90⟩ := bind_some hj90
                    refine TQ.sw rfl rfl rfl hb88 rfl rfl (StepS.ldN (j := 4) rfl (Ent.at 1 rfl) kscalB_36_true hx96 rfl rfl).q ?_
                    obtain ⟨r97, hc98, hj90⟩ := bind_some hj90
                    refine TQ.sw rfl rfl rfl hb88 rfl rfl (StepQ.call kcallB_27_true rfl rfl (fun _ st => C27 (OwnS.rd (SN.piece (Ent.at 1 rfl) hx96 1 rfl)) hc98 st)) ?_
                    refine TQ.sw rfl rfl rfl hb88 rfl rfl (StepS.cmp rfl rfl rfl).q ?_
                    refine TQ.sw rfl rfl rfl hb88 rfl rfl (StepS.move rfl).q ?_
                    obtain ⟨b100, hj101, hj90⟩ := bind_some hj90
                    refine TQ.mid1 25 187 (.bool b100) ?_ ?_
                    · refine bcase ((decide (r93 < r97))) (fun hb99 => ?_) (fun hb99 => ?_)
                      · replace hj101 := cond_t hb99 hj101
                        cases hj101
                        refine TQ.skip rfl rfl rfl (skipT hb99) rfl rfl ?_
                        refine TQ.skip rfl rfl rfl (skipT hb99) rfl rfl ?_
                        refine TQ.skip rfl rfl rfl (skipT hb99) rfl rfl ?_
                        refine TQ.skip rfl rfl rfl (skipT hb99) rfl rfl ?_
                        refine TQ.skip rfl rfl rfl (skipT hb99) rfl rfl ?_
                        refine TQ.skip rfl rfl rfl (skipT hb99) rfl rfl ?_
                        refine TQ.skip rfl rfl rfl (skipT hb99) rfl rfl ?_
                        refine TQ.skip rfl rfl rfl (skipT hb99) rfl rfl ?_
                        refine TQ.skip rfl rfl rfl (skipT hb99) rfl rfl ?_
                        refine TQ.skip rfl rfl rfl (skipT hb99) rfl rfl ?_
                        refine TQ.skip rfl rfl rfl (skipT hb99) rfl rfl ?_
                        refine TQ.skip rfl rfl rfl (skipT hb99) rfl rfl ?_
                        refine TQ.skip rfl rfl rfl skipU rfl rfl ?_
                        refine TQ.skip rfl rfl rfl skipU rfl rfl ?_
                        refine TQ.skip rfl rfl rfl skipU rfl rfl ?_
                        refine TQ.skip rfl rfl rfl skipU rfl rfl ?_
                        refine TQ.skip rfl rfl rfl skipU rfl rfl ?_
                        refine TQ.skip rfl rfl rfl skipU rfl rfl ?_
                        refine TQ.skip rfl rfl rfl skipU rfl rfl ?_
                        refine TQ.skip rfl rfl rfl skipU rfl rfl ?_
                        refine TQ.skip rfl rfl rfl skipU rfl rfl ?_
                        refine TQ.skip rfl rfl rfl skipU rfl rfl ?_
                        refine TQ.skip rfl rfl rfl skipU rfl rfl ?_
                        refine TQ.skip rfl rfl rfl (skipT hb99) rfl rfl ?_
                        refine TQ.sw rfl rfl rfl hb88 rfl rfl (StepS.pickT rfl hb99 rfl).q ?_
                        exact TQ.up1 25 0 rfl rfl rfl rfl
                      · replace hj101 := cond_f hb99 hj101
                        refine TQ.sw rfl rfl rfl hb99 rfl rfl (StepS.move rfl).q ?_
                        refine TQ.sw rfl rfl rfl hb99 rfl rfl (StepS.nilc rfl).q ?_
                        refine TQ.sw rfl rfl rfl hb99 rfl rfl (StepS.ptrf rfl kfieldB_61_4_4_true).q ?_
                        obtain ⟨x102, hx103, hj101⟩ := bind_some hj101
                        refine TQ.sw rfl rfl rfl hb99 rfl rfl (StepS.ldN (j := 4) rfl (Ent.at 1 rfl) kscalB_36_true hx103 rfl rfl).q ?_
                        obtain ⟨r104, hc105, hj101⟩ := bind_some hj101
                        refine TQ.sw rfl rfl rfl hb99 rfl rfl (StepQ.call kcallB_27_true rfl rfl (fun _ st => C27 (OwnS.rd (SN.piece (Ent.at 1 rfl) hx103 1 rfl)) hc105 st)) ?_
                        refine TQ.sw rfl rfl rfl hb99 rfl rfl (StepS.move rfl).q ?_
                        refine TQ.sw rfl rfl rfl hb99 rfl rfl (StepS.nilc rfl).q ?_
                        refine TQ.sw rfl rfl rfl hb99 rfl rfl (StepS.ptrf rfl kfieldB_61_4_4_true).q ?_
                        obtain ⟨x106, hx107, hj101⟩ := bind_some hj101
                        refine TQ.sw rfl rfl rfl hb99 rfl rfl (StepS.ldN (j := 4) rfl (Ent.at 1 rfl) kscalB_36_true hx107 rfl rfl).q ?_
                        obtain ⟨r108, hc109, hj101⟩ := bind_some hj101
                        refine TQ.sw rfl rfl rfl hb99 rfl rfl (StepQ.call kcallB_27_true rfl rfl (fun _ st => C27 (OwnS.rd (SN.piece (Ent.at 1 rfl) hx107 1 rfl)) hc109 st)) ?_
                        refine TQ.sw rfl rfl rfl hb99 rfl rfl (StepS.cmp rfl rfl rfl).q ?_
                        refine TQ.sw rfl rfl rfl hb99 rfl rfl (StepS.move rfl).q ?_
                        obtain ⟨b111, hj112, hj101⟩ := bind_some hj101
                        refine TQ.mid1 12 186 (.bool b111) ?_ ?_
                        · refine bcase ((r104 == r108)) (fun hb110 => ?_) (fun hb110 => ?_)
                          · replace hj112 := cond_t hb110 hj112
                            refine TQ.sw rfl rfl rfl hb110 rfl rfl (StepS.move rfl).q ?_
                            refine TQ.sw rfl rfl rfl hb110 rfl rfl (StepS.nilc rfl).q ?_
                            refine TQ.sw rfl rfl rfl hb110 rfl rfl (StepS.ptrf rfl kfieldB_61_4_4_true).q ?_
                            obtain ⟨x113, hx114, hj112⟩ := bind_some hj112
                            refine TQ.sw rfl rfl rfl hb110 rfl rfl (StepS.ldN (j := 4) rfl (Ent.at 1 rfl) kscalB_36_true hx114 rfl rfl).q ?_
                            refine TQ.sw rfl rfl rfl hb110 rfl rfl (StepS.lenm rfl (OwnS.rd (SN.piece (Ent.at 1 rfl) hx114 1 rfl)) ksliceB_36_52_2_true rfl).q ?_
                            refine TQ.sw rfl rfl rfl hb110 rfl rfl (StepS.move rfl).q ?_
                            refine TQ.sw rfl rfl rfl hb110 rfl rfl (StepS.nilc rfl).q ?_
                            refine TQ.sw rfl rfl rfl hb110 rfl rfl (StepS.ptrf rfl kfieldB_61_4_4_true).q ?_
                            obtain ⟨x115, hx116, hj112⟩ := bind_some hj112
                            refine TQ.sw rfl rfl rfl hb110 rfl rfl (StepS.ldN (j := 4) rfl (Ent.at 1 rfl) kscalB_36_true hx116 rfl rfl).q ?_
                            refine TQ.sw rfl rfl rfl hb110 rfl rfl (StepS.lenm rfl (OwnS.rd (SN.piece (Ent.at 1 rfl) hx116 1 rfl)) ksliceB_36_52_2_true rfl).q ?_
                            refine TQ.sw rfl rfl rfl hb110 rfl rfl (StepS.cmp rfl rfl rfl).q ?_
                            cases hj112
                            refine TQ.sw rfl rfl rfl hb99 rfl rfl (StepS.pickT rfl hb110 rfl).q ?_
                            exact TQ.up1 12 0 rfl rfl rfl rfl
                          · replace hj112 := cond_f hb110 hj112
                            cases hj112
                            refine TQ.skip rfl rfl rfl (skipF hb110) rfl rfl ?_
                            refine TQ.skip rfl rfl rfl (skipF hb110) rfl rfl ?_
                            refine TQ.skip rfl rfl rfl (skipF hb110) rfl rfl ?_
                            refine TQ.skip rfl rfl rfl (skipF hb110) rfl rfl ?_
                            refine TQ.skip rfl rfl rfl (skipF hb110) rfl rfl ?_
                            refine TQ.skip rfl rfl rfl (skipF hb110) rfl rfl ?_
                            refine TQ.skip rfl rfl rfl (skipF hb110) rfl rfl ?_
                            refine TQ.skip rfl rfl rfl (skipF hb110) rfl rfl ?_
                            refine TQ.skip rfl rfl rfl (skipF hb110) rfl rfl ?_
                            refine TQ.skip rfl rfl rfl (skipF hb110) rfl rfl ?_
                            refine TQ.skip rfl rfl rfl (skipF hb110) rfl rfl ?_
                            refine TQ.sw rfl rfl rfl hb99 rfl rfl (StepS.pickF rfl hb110 rfl).q ?_
                            exact TQ.up1 12 0 rfl rfl rfl rfl
                        cases hj101
                        refine TQ.sw rfl rfl rfl hb88 rfl rfl (StepS.pickF rfl hb99 rfl).q ?_
                        exact TQ.up1 14 0 rfl rfl rfl rfl
                    cases hj90
                    refine TQ.s rfl rfl rfl (StepS.pickT rfl hb88 rfl).q ?_
                    exact TQ.up1 14 0 rfl rfl rfl rfl
                  · replace hj90 := cond_f hb88 hj90
                    cases hj90
                    refine TQ.skip rfl rfl rfl (skipF hb88) rfl rfl ?_
                    refine TQ.skip rfl rfl rfl (skipF hb88) rfl rfl ?_
                    refine TQ.skip rfl rfl rfl (skipF hb88) rfl rfl ?_
                    refine TQ.skip rfl rfl rfl (skipF hb88) rfl rfl ?_
                    refine TQ.skip rfl rfl rfl (skipF hb88) rfl rfl ?_
                    refine TQ.skip rfl rfl rfl (skipF hb88) rfl rfl ?_
                    refine TQ.skip rfl rfl rfl (skipF hb88) rfl rfl ?_
                    refine TQ.skip rfl rfl rfl (skipF hb88) rfl rfl ?_
                    refine TQ.skip rfl rfl rfl (skipF hb88) rfl rfl ?_
                    refine TQ.skip rfl rfl rfl (skipF hb88) rfl rfl ?_
                    refine TQ.skip rfl rfl rfl (skipF hb88) rfl rfl ?_
                    refine TQ.skip rfl rfl rfl (skipF hb88) rfl rfl ?_
                    refine TQ.skip rfl rfl rfl skipU rfl rfl ?_
                    refine TQ.skip rfl rfl rfl skipU rfl rfl ?_
                    refine TQ.skip rfl rfl rfl skipU rfl rfl ?_
                    refine TQ.skip rfl rfl rfl skipU rfl rfl ?_
                    refine TQ.skip rfl rfl rfl skipU rfl rfl ?_
                    refine TQ.skip rfl rfl rfl skipU rfl rfl ?_
                    refine TQ.skip rfl rfl rfl skipU rfl rfl ?_
                    refine TQ.skip rfl rfl rfl skipU rfl rfl ?_
                    refine TQ.skip rfl rfl rfl skipU rfl rfl ?_
                    refine TQ.skip rfl rfl rfl skipU rfl rfl ?_
                    refine TQ.skip rfl rfl rfl skipU rfl rfl ?_
                    refine TQ.skip rfl rfl rfl skipU rfl rfl ?_
                    refine TQ.skip rfl rfl rfl skipU rfl rfl ?_
                    refine TQ.skip rfl rfl rfl skipU rfl rfl ?_
                    refine TQ.skip rfl rfl rfl skipU rfl rfl ?_
                    refine TQ.skip rfl rfl rfl skipU rfl rfl ?_
                    refine TQ.skip rfl rfl rfl skipU rfl rfl ?_
                    refine TQ.skip rfl rfl rfl skipU rfl rfl ?_
                    refine TQ.skip rfl rfl rfl skipU rfl rfl ?_
                    refine TQ.skip rfl rfl rfl skipU rfl rfl ?_
                    refine TQ.skip rfl rfl rfl skipU rfl rfl ?_
                    refine TQ.skip rfl rfl rfl skipU rfl rfl ?_
                    refine TQ.skip rfl rfl rfl skipU rfl rfl ?_
                    refine TQ.skip rfl rfl rfl skipU rfl rfl ?_
                    refine TQ.skip rfl rfl rfl (skipF hb88) rfl rfl ?_
                    refine TQ.s rfl rfl rfl (StepS.pickF rfl hb88 rfl).q ?_
                    exact TQ.up1 38 0 rfl rfl rfl rfl
                refine TQ.code ?_
                refine TC.cond rfl (fun hc117 => ?_) (fun hc117 => ?_)
                · replace hm := cond_t hc117 hm
                  refine TC.k ?_
                  refine TC.region ?_
                  refine TO.s rfl rfl rfl (StepS.assign rfl) ?_
                  refine TO.code ?_
                  cases hm
                  refine TC.ret fun a w e s => ?_
                  refine FRet.mk1 (P := Try.prog) (fn := Try.f16) (t := 6) e rfl rfl ?_
                  refine ⟨_, _, rfl, ⟨(hs67), (h0_3), rfl, rfl⟩, ?_⟩
                  refine s.mono fun _ s => ?_
                  replace s := Sat.front 3 rfl s
                  replace s := Sat.front 2 rfl s
                  replace s := Sat.front 2 rfl s
                  replace s := Sat.erase 3 s
                  exact s
                · replace hm := cond_f hc117 hm
                  refine TC.skipk ?_
                  refine TC.k ?_
                  refine TC.region ?_
                  refine TO.s rfl rfl rfl (StepS.move rfl) ?_
                  refine TO.s rfl rfl rfl (StepS.fld rfl kfieldB_45_2_2_true) ?_
                  refine TO.s rfl rfl rfl (StepS.ldB rfl (Ent.at 2 rfl) kscalB_3_true rfl) ?_
                  refine TO.s rfl rfl rfl (StepS.nilc rfl) ?_
                  refine TO.s rfl rfl rfl (StepS.ptrf rfl kfieldB_61_2_2_true) ?_
                  obtain ⟨x118, hx119, hm⟩ := bind_some hm
                  refine TO.ghost (fun _ s => Sat.front 1 rfl s) ?_
                  refine TO.openN (L' := (OwnS 3 1 (cv (gr hs67 a1.2.1.toNat) 0) (x118.2.2.2.1.map cI) :: OwnS 52 2 (cv (gr hs67 a1.2.1.toNat) 1) (x118.2.2.2.2.1.map cTii) :: OwnS 3 1 (cv (gr hs67 a1.2.1.toNat) 2) (x118.2.2.2.2.2.2.1.map cI) :: OwnS 3 1 (cv (gr hs67 a1.2.1.toNat) 3) (x118.2.2.2.2.2.2.2.map cI) :: SNh 61 8 nT61 h0_1 hs67 (r65) a1.2.1.toNat [I x118.1, I x118.2.1, I x118.2.2.1, (cv (gr hs67 a1.2.1.toNat) 0), (cv (gr hs67 a1.2.1.toNat) 1), I x118.2.2.2.2.2.1, (cv (gr hs67 a1.2.1.toNat) 2), (cv (gr hs67 a1.2.1.toNat) 3)] :: Bx b0_ 59 [h0_1, h0_3] :: Bx b5 45 [I a1.1, I a1.2.1, I a1.2.2.1, I a1.2.2.2] :: OwnS 79 2 h0_3 (a0.2.map cTii) :: L)) rfl hx119 rfl ?_
                  refine TO.ghost (fun _ s => Sat.front 4 rfl s) ?_
                  refine TO.stNh (i := a1.2.1) (off := 2) (us := [I a1.2.2.1]) (cs' := [I x118.1, I x118.2.1, I a1.2.2.1, (cv (gr hs67 a1.2.1.toNat) 0), (cv (gr hs67 a1.2.1.toNat) 1), I x118.2.2.2.2.2.1, (cv (gr hs67 a1.2.1.toNat) 2), (cv (gr hs67 a1.2.1.toNat) 3)]) rfl rfl ksizeB_3_1_true rfl rfl rfl hx119 rfl (by simp [Value.oneCell']) rfl ?_
                  refine TO.ghost (fun _ s => Sat.front 4 rfl s) ?_
                  refine TO.ghost (fun _ s => Sat.front 4 rfl s) ?_
                  refine TO.ghost (fun _ s => Sat.front 4 rfl s) ?_
                  refine TO.ghost (fun _ s => Sat.front 4 rfl s) ?_
                  obtain ⟨y125, hy126, hm⟩ := bind_some hm
                  refine TO.closeN (T := nT61) (cs := [I x118.1, I x118.2.1, I a1.2.2.1, (cv (gr hs67 a1.2.1.toNat) 0), (cv (gr hs67 a1.2.1.toNat) 1), I x118.2.2.2.2.2.1, (cv (gr hs67 a1.2.1.toNat) 2), (cv (gr hs67 a1.2.1.toNat) 3)]) [(cv (gr hs67 a1.2.1.toNat) 0), (cv (gr hs67 a1.2.1.toNat) 1), (cv (gr hs67 a1.2.1.toNat) 2), (cv (gr hs67 a1.2.1.toNat) 3)] (x118.1, x118.2.1, a1.2.2.1, x118.2.2.2.1, x118.2.2.2.2.1, x118.2.2.2.2.2.1, x118.2.2.2.2.2.2.1, x118.2.2.2.2.2.2.2) rfl rfl hx119 (Option.some.inj hy126) fun hs124 => ?_
                  refine TO.code ?_
                  refine TC.region ?_
                  refine TO.s rfl rfl rfl (StepS.move rfl) ?_
                  refine TO.s rfl rfl rfl (StepS.fld rfl kfieldB_45_2_2_true) ?_
                  refine TO.s rfl rfl rfl (StepS.ldB rfl (Ent.at 2 rfl) kscalB_3_true rfl) ?_
                  refine TO.s rfl rfl rfl (StepS.fld rfl kfieldB_45_1_1_true) ?_
                  refine TO.s rfl rfl rfl (StepS.ldB rfl (Ent.at 2 rfl) kscalB_3_true rfl) ?_
                  refine TO.ghost (fun _ s => Sat.front 3 rfl s) ?_
                  refine TO.ghost (fun _ s => Sat.front 1 rfl s) ?_
                  refine TO.ghost (fun _ s => Sat.front 2 rfl s) ?_
                  obtain ⟨r127, hc128, hm⟩ := bind_some hm
                  refine TO.callO kcallB_25_true rfl rfl rfl (fun _ st => C25 (a0 := (y125, a0.2))  hc128 st) ?_
                  rintro _ _ ⟨hs129, v131, rfl, rfl⟩
                  refine TO.code ?_
                  refine TC.k ?_
                  refine TC.region ?_
                  refine TO.s rfl rfl rfl (StepS.assign rfl) ?_
                  refine TO.code ?_
                  cases hm
                  refine TC.ret fun a w e s => ?_
                  refine FRet.mk1 (P := Try.prog) (fn := Try.f16) (t := 6) e rfl rfl ?_
                  refine ⟨_, _, rfl, ⟨(hs129), (v131), rfl, rfl⟩, ?_⟩
                  refine s.mono fun _ s => ?_
                  replace s := Sat.front 2 rfl s
                  replace s := Sat.front 2 rfl s
                  replace s := Sat.front 2 rfl s
                  replace s := Sat.erase 3 s
                  exact s
        · replace hm := cond_f hc61 hm
          refine TC.k ?_
          refine TC.region ?_
          refine TO.s rfl rfl rfl (StepS.cmp rfl rfl rfl) ?_
          refine TO.s rfl rfl rfl (StepS.assign rfl) ?_
          refine TO.code ?_
          refine TC.cond rfl (fun hc133 => ?_) (fun hc133 => ?_)
          · replace hm := cond_t hc133 hm
            refine TC.k ?_
            refine TC.region_still kfollows_mixedOrders_true (by kernel_rfl) ?_
            refine TS.s rfl rfl rfl (StepS.move rfl) ?_
            refine TS.s rfl rfl rfl (StepS.nilc rfl) ?_
            refine TS.s rfl rfl rfl (StepS.fld rfl kfieldB_59_0_0_true) ?_
            refine TS.s rfl rfl rfl (StepS.ldB rfl (Ent.at 1 rfl) kscalB_56_true rfl) ?_
            refine TS.s rfl rfl rfl (StepS.fld rfl kfieldB_45_2_2_true) ?_
            refine TS.s rfl rfl rfl (StepS.ldB rfl (Ent.at 0 rfl) kscalB_3_true rfl) ?_
            obtain ⟨x134, hx135, hm⟩ := bind_some hm
            refine TS.s rfl rfl rfl (StepS.idxN rfl rfl (Ent.at 2 rfl) ksliceB_56_61_8_true hx135) ?_
            refine TS.s rfl rfl rfl (StepS.assign rfl) ?_
            refine TS.code ?_
            refine TC.k ?_
            refine TC.k ?_
            refine TC.region ?_
            refine TO.s rfl rfl rfl (StepS.move rfl) ?_
            refine TO.s rfl rfl rfl (StepS.nilc rfl) ?_
            refine TO.s rfl rfl rfl (StepS.ptrf rfl kfieldB_61_1_1_true) ?_
            refine TO.s rfl rfl rfl (StepS.ldN (j := 1) rfl (Ent.at 2 rfl) kscalB_3_true hx16 rfl rfl) ?_
            refine TO.s rfl rfl rfl (StepS.cmp rfl rfl rfl) ?_
            refine TO.code ?_
            refine TC.cond rfl (fun hc136 => ?_) (fun hc136 => ?_)
            · replace hm := cond_t hc136 hm
              refine TC.k ?_
              refine TC.region ?_
              refine TO.s rfl rfl rfl (StepS.assign rfl) ?_
              refine TO.code ?_
              cases hm
              refine TC.ret fun a w e s => ?_
              refine FRet.mk1 (P := Try.prog) (fn := Try.f16) (t := 6) e rfl rfl ?_
              refine ⟨_, _, rfl, ⟨(h0_2), (h0_3), rfl, rfl⟩, ?_⟩
              refine s.mono fun _ s => ?_
              replace s := Sat.front 3 rfl s
              replace s := Sat.front 3 rfl s
              replace s := Sat.front 3 rfl s
              replace s := Sat.erase 3 s
              exact s
            · replace hm := cond_f hc136 hm
              refine TC.skipk ?_
              refine TC.k ?_
              refine TC.k ?_
              refine TC.region_still kfollows_mixedOrders_true (by kernel_rfl) ?_
              refine TS.s rfl rfl rfl (StepS.move rfl) ?_
              refine TS.s rfl rfl rfl (StepS.nilc rfl) ?_
              refine TS.s rfl rfl rfl (StepS.ptrf rfl kfieldB_61_0_0_true) ?_
              refine TS.s rfl rfl rfl (StepS.ldN (j := 0) rfl (Ent.at 2 rfl) kscalB_3_true hx135 rfl rfl) ?_
              refine TS.s rfl rfl rfl (StepS.move rfl) ?_
              refine TS.s rfl rfl rfl (StepS.nilc rfl) ?_
              refine TS.s rfl rfl rfl (StepS.ptrf rfl kfieldB_61_0_0_true) ?_
              refine TS.s rfl rfl rfl (StepS.ldN (j := 0) rfl (Ent.at 2 rfl) kscalB_3_true hx16 rfl rfl) ?_
              refine TS.s rfl rfl rfl (StepS.cmp rfl rfl rfl) ?_
              refine TS.code ?_
              refine TC.cond rfl (fun hc137 => ?_) (fun hc137 => ?_)
              · replace hm := cond_t hc137 hm
                refine TC.k ?_
                refine TC.region_tail 7 kfollows_mixedOrders_true (by kernel_rfl) ?_
                refine TS.s rfl rfl rfl (StepS.move rfl) ?_
                refine TS.s rfl rfl rfl (StepS.fld rfl kfieldB_45_1_1_true) ?_
                refine TS.s rfl rfl rfl (StepS.ldB rfl (Ent.at 0 rfl) kscalB_3_true rfl) ?_
                refine TS.s rfl rfl rfl (StepS.move rfl) ?_
                refine TS.s rfl rfl rfl (StepS.nilc rfl) ?_
                refine TS.s rfl rfl rfl (StepS.ptrf rfl kfieldB_61_0_0_true) ?_
                refine TS.s rfl rfl rfl (StepS.ldN (j := 0) rfl (Ent.at 2 rfl) kscalB_3_true hx135 rfl rfl) ?_
                refine TS.nil ?_
                refine TO.at ?_
                refine TO.ghost (fun _ s => Sat.front 2 rfl s) ?_
                refine TO.ghost (fun _ s => Sat.front 2 rfl s) ?_
                obtain ⟨r138, hc139, hm⟩ := bind_some hm
                refine TO.callO kcallB_26_true rfl rfl rfl (fun _ st => C26 (a0 := a0.1)  hc139 st) ?_
                rintro _ _ ⟨hs140, rfl, rfl⟩
                refine TO.code ?_
                refine TC.k ?_
                refine TC.region ?_
                refine TO.s rfl rfl rfl (StepS.assign rfl) ?_
                refine TO.code ?_
                cases hm
                refine TC.ret fun a w e s => ?_
                refine FRet.mk1 (P := Try.prog) (fn := Try.f16) (t := 6) e rfl rfl ?_
                refine ⟨_, _, rfl, ⟨(hs140), (h0_3), rfl, rfl⟩, ?_⟩
                refine s.mono fun _ s => ?_
                replace s := Sat.front 3 rfl s
                replace s := Sat.front 2 rfl s
                replace s := Sat.front 2 rfl s
                replace s := Sat.erase 3 s
                exact s
              · replace hm := cond_f hc137 hm
                refine TC.skipk ?_
                refine TC.k ?_
                refine TC.region_tail 7 kfollows_mixedOrders_true (by kernel_rfl) ?_
                refine TS.s rfl rfl rfl (StepS.move rfl) ?_
                refine TS.s rfl rfl rfl (StepS.fld rfl kfieldB_45_2_2_true) ?_
                refine TS.s rfl rfl rfl (StepS.ldB rfl (Ent.at 0 rfl) kscalB_3_true rfl) ?_
                refine TS.s rfl rfl rfl (StepS.move rfl) ?_
                refine TS.s rfl rfl rfl (StepS.nilc rfl) ?_
                refine TS.s rfl rfl rfl (StepS.ptrf rfl kfieldB_61_0_0_true) ?_
                refine TS.s rfl rfl rfl (StepS.ldN (j := 0) rfl (Ent.at 2 rfl) kscalB_3_true hx16 rfl rfl) ?_
                refine TS.nil ?_
                refine TO.at ?_
                refine TO.ghost (fun _ s => Sat.front 2 rfl s) ?_
                refine TO.ghost (fun _ s => Sat.front 2 rfl s) ?_
                obtain ⟨r142, hc143, hm⟩ := bind_some hm
                refine TO.callO kcallB_26_true rfl rfl rfl (fun _ st => C26 (a0 := a0.1)  hc143 st) ?_
                rintro _ _ ⟨hs144, rfl, rfl⟩
                refine TO.code ?_
                refine TC.k ?_
                refine TC.region ?_
                refine TO.s rfl rfl rfl (StepS.move rfl) ?_
                refine TO.s rfl rfl rfl (StepS.nilc rfl) ?_
                refine TO.s rfl rfl rfl (StepS.ptrf rfl kfieldB_61_1_1_true) ?_
                obtain ⟨x146, hx147, hm⟩ := bind_some hm
                refine TO.ghost (fun _ s => Sat.front 1 rfl s) ?_
                refine TO.openN (L' := (OwnS 3 1 (cv (gr hs144 a1.2.2.1.toNat) 0) (x146.2.2.2.1.map cI) :: OwnS 52 2 (cv (gr hs144 a1.2.2.1.toNat) 1) (x146.2.2.2.2.1.map cTii) :: OwnS 3 1 (cv (gr hs144 a1.2.2.1.toNat) 2) (x146.2.2.2.2.2.2.1.map cI) :: OwnS 3 1 (cv (gr hs144 a1.2.2.1.toNat) 3) (x146.2.2.2.2.2.2.2.map cI) :: SNh 61 8 nT61 h0_1 hs144 (r142) a1.2.2.1.toNat [I x146.1, I x146.2.1, I x146.2.2.1, (cv (gr hs144 a1.2.2.1.toNat) 0), (cv (gr hs144 a1.2.2.1.toNat) 1), I x146.2.2.2.2.2.1, (cv (gr hs144 a1.2.2.1.toNat) 2), (cv (gr hs144 a1.2.2.1.toNat) 3)] :: Bx b0_ 59 [h0_1, h0_3] :: Bx b5 45 [I a1.1, I a1.2.1, I a1.2.2.1, I a1.2.2.2] :: OwnS 79 2 h0_3 (a0.2.map cTii) :: L)) rfl hx147 rfl ?_
                refine TO.ghost (fun _ s => Sat.front 4 rfl s) ?_
                refine TO.stNh (i := a1.2.2.1) (off := 1) (us := [I 0]) (cs' := [I x146.1, I 0, I x146.2.2.1, (cv (gr hs144 a1.2.2.1.toNat) 0), (cv (gr hs144 a1.2.2.1.toNat) 1), I x146.2.2.2.2.2.1, (cv (gr hs144 a1.2.2.1.toNat) 2), (cv (gr hs144 a1.2.2.1.toNat) 3)]) rfl rfl ksizeB_3_1_true rfl rfl rfl hx147 rfl (by simp [Value.oneCell']) rfl ?_
                refine TO.ghost (fun _ s => Sat.front 4 rfl s) ?_
                refine TO.ghost (fun _ s => Sat.front 4 rfl s) ?_
                refine TO.ghost (fun _ s => Sat.front 4 rfl s) ?_
                refine TO.ghost (fun _ s => Sat.front 4 rfl s) ?_
                obtain ⟨y153, hy154, hm⟩ := bind_some hm
                refine TO.closeN (T := nT61) (cs := [I x146.1, I 0, I x146.2.2.1, (cv (gr hs144 a1.2.2.1.toNat) 0), (cv (gr hs144 a1.2.2.1.toNat) 1), I x146.2.2.2.2.2.1, (cv (gr hs144 a1.2.2.1.toNat) 2), (cv (gr hs144 a1.2.2.1.toNat) 3)]) [(cv (gr hs144 a1.2.2.1.toNat) 0), (cv (gr hs144 a1.2.2.1.toNat) 1), (cv (gr hs144 a1.2.2.1.toNat) 2), (cv (gr hs144 a1.2.2.1.toNat) 3)] (x146.1, 0, x146.2.2.1, x146.2.2.2.1, x146.2.2.2.2.1, x146.2.2.2.2.2.1, x146.2.2.2.2.2.2.1, x146.2.2.2.2.2.2.2) rfl rfl hx147 (Option.some.inj hy154) fun hs152 => ?_
                refine TO.code ?_
                refine TC.k ?_
                refine TC.k ?_
                refine TC.region ?_
                refine TO.s rfl rfl rfl (StepS.move rfl) ?_
                refine TO.s rfl rfl rfl (StepS.not rfl) ?_
                refine TO.code ?_
                refine TC.cond rfl (fun hc155 => ?_) (fun hc155 => ?_)
                · replace hm := cond_t hc155 hm
                  refine TC.k ?_
                  refine TC.region ?_
                  refine TO.s rfl rfl rfl (StepS.assign rfl) ?_
                  refine TO.code ?_
                  cases hm
                  refine TC.ret fun a w e s => ?_
                  refine FRet.mk1 (P := Try.prog) (fn := Try.f16) (t := 6) e rfl rfl ?_
                  refine ⟨_, _, rfl, ⟨(hs152), (h0_3), rfl, rfl⟩, ?_⟩
                  refine s.mono fun _ s => ?_
                  replace s := Sat.front 3 rfl s
                  replace s := Sat.front 1 rfl s
                  replace s := Sat.front 2 rfl s
                  replace s := Sat.erase 3 s
                  exact s
                · replace hm := cond_f hc155 hm
                  refine TC.skipk ?_
                  refine TC.k ?_
                  refine TC.region_still kfollows_mixedOrders_true (by kernel_rfl) ?_
                  refine TS.s rfl rfl rfl (StepS.move rfl) ?_
                  refine TS.s rfl rfl rfl (StepS.nilc rfl) ?_
                  refine TS.s rfl rfl rfl (StepS.ptrf rfl kfieldB_61_7_7_true) ?_
                  obtain ⟨x156, hx157, hm⟩ := bind_some hm
                  refine TS.s rfl rfl rfl (StepS.ldN (j := 7) rfl (Ent.at 0 rfl) kscalB_24_true hx157 rfl rfl) ?_
                  refine TS.s rfl rfl rfl (StepS.fld rfl kfieldB_45_2_2_true) ?_
                  refine TS.s rfl rfl rfl (StepS.ldB rfl (Ent.at 2 rfl) kscalB_3_true rfl) ?_
                  obtain ⟨x158, hx159, hm⟩ := bind_some hm
                  refine TS.s rfl rfl rfl (StepS.idx rfl rfl (OwnS.rd (SN.piece (Ent.at 0 rfl) hx157 3 rfl)) ksliceB_24_3_1_true (idx_spec hx159).1 (idxm_lt hx159)) ?_
                  refine TS.s rfl rfl rfl (StepS.ld0 rfl (OwnS.rd (SN.piece (Ent.at 0 rfl) hx157 3 rfl)) kscalB_3_true rfl (idxm hx159) rfl) ?_
                  refine TS.s rfl rfl rfl (StepS.assign rfl) ?_
                  refine TS.code ?_
                  refine TC.k ?_
                  refine TC.k ?_
                  refine TC.region_still kfollows_mixedOrders_true (by kernel_rfl) ?_
                  refine TS.s rfl rfl rfl (StepS.move rfl) ?_
                  refine TS.s rfl rfl rfl (StepS.move rfl) ?_
                  refine TS.s rfl rfl rfl (StepS.nilc rfl) ?_
                  refine TS.s rfl rfl rfl (StepS.ptrf rfl kfieldB_61_4_4_true) ?_
                  obtain ⟨x160, hx161, hm⟩ := bind_some hm
                  refine TS.s rfl rfl rfl (StepS.ldN (j := 4) rfl (Ent.at 0 rfl) kscalB_36_true hx161 rfl rfl) ?_
                  refine TS.s rfl rfl rfl (StepS.lenm rfl (OwnS.rd (SN.piece (Ent.at 0 rfl) hx161 1 rfl)) ksliceB_36_52_2_true rfl) ?_
                  refine TS.s rfl rfl rfl (StepS.cmp rfl rfl rfl) ?_
                  refine TS.s rfl rfl rfl (StepS.move rfl) ?_
                  obtain ⟨b163, hj164, hm⟩ := bind_some hm
                  refine TS.mid1 22 281 (.bool b163) ?_ ?_
                  · refine bcase ((decide (x158 > (x160.2.2.2.2.1.length : Int)))) (fun hb162 => ?_) (fun hb162 => ?_)
                    · replace hj164 := cond_t hb162 hj164
                      cases hj164
                      refine TS.skip rfl rfl rfl (skipT hb162) rfl rfl ?_
                      refine TS.skip rfl rfl rfl (skipT hb162) rfl rfl ?_
                      refine TS.skip rfl rfl rfl (skipT hb162) rfl rfl ?_
                      refine TS.skip rfl rfl rfl skipU rfl rfl ?_
                      refine TS.skip rfl rfl rfl skipU rfl rfl ?_
                      refine TS.skip rfl rfl rfl skipU rfl rfl ?_
                      refine TS.skip rfl rfl rfl skipU rfl rfl ?_
                      refine TS.skip rfl rfl rfl skipU rfl rfl ?_
                      refine TS.skip rfl rfl rfl skipU rfl rfl ?_
                      refine TS.skip rfl rfl rfl skipU rfl rfl ?_
                      refine TS.skip rfl rfl rfl skipU rfl rfl ?_
                      refine TS.skip rfl rfl rfl skipU rfl rfl ?_
                      refine TS.skip rfl rfl rfl skipU rfl rfl ?_
                      refine TS.skip rfl rfl rfl skipU rfl rfl ?_
                      refine TS.skip rfl rfl rfl skipU rfl rfl ?_
                      refine TS.skip rfl rfl rfl skipU rfl rfl ?_
                      refine TS.skip rfl rfl rfl skipU rfl rfl ?_
                      refine TS.skip rfl rfl rfl skipU rfl rfl ?_
                      refine TS.skip rfl rfl rfl skipU rfl rfl ?_
                      refine TS.skip rfl rfl rfl skipU rfl rfl ?_
                      refine TS.skip rfl rfl rfl (skipT hb162) rfl rfl ?_
                      refine TS.s rfl rfl rfl (StepS.pickT rfl hb162 rfl) ?_
                      exact TS.up1 22 0 rfl rfl rfl rfl
                    · replace hj164 := cond_f hb162 hj164
                      refine TS.sw rfl rfl rfl hb162 rfl rfl (StepS.move rfl) ?_
                      refine TS.sw rfl rfl rfl hb162 rfl rfl (StepS.cmp rfl rfl rfl) ?_
                      refine TS.sw rfl rfl rfl hb162 rfl rfl (StepS.move rfl) ?_
                      obtain ⟨b166, hj167, hj164⟩ := bind_some hj164
                      refine TS.mid1 18 280 (.bool b166) ?_ ?_
                      · refine bcase ((decide (x158 > 0))) (fun hb165 => ?_) (fun hb165 => ?_)
                        · replace hj167 := cond_t hb165 hj167
                          refine TS.sw rfl rfl rfl hb165 rfl rfl (StepS.move rfl) ?_
                          refine TS.sw rfl rfl rfl hb165 rfl rfl (StepS.nilc rfl) ?_
                          refine TS.sw rfl rfl rfl hb165 rfl rfl (StepS.ptrf rfl kfieldB_61_4_4_true) ?_
                          obtain ⟨x168, hx169, hj167⟩ := bind_some hj167
                          refine TS.sw rfl rfl rfl hb165 rfl rfl (StepS.ldN (j := 4) rfl (Ent.at 0 rfl) kscalB_36_true hx169 rfl rfl) ?_
                          refine TS.sw rfl rfl rfl hb165 rfl rfl (StepS.move rfl) ?_
                          refine TS.sw rfl rfl rfl hb165 rfl rfl (StepS.ari rfl rfl rfl) ?_
                          obtain ⟨x170, hx171, hj167⟩ := bind_some hj167
                          refine TS.sw rfl rfl rfl hb165 rfl rfl (StepS.idx rfl rfl (OwnS.rd (SN.piece (Ent.at 0 rfl) hx169 1 rfl)) ksliceB_36_52_2_true (idx_spec hx171).1 (idxm_lt hx171)) ?_
                          refine TS.sw rfl rfl rfl hb165 rfl rfl (StepS.ldE rfl (OwnS.rd (SN.piece (Ent.at 0 rfl) hx169 1 rfl)) kaggB_52_2_true rfl (idxm hx171)) ?_
                          refine TS.sw rfl rfl rfl hb165 rfl rfl (StepS.move rfl) ?_
                          refine TS.sw rfl rfl rfl hb165 rfl rfl (StepS.nilc rfl) ?_
                          refine TS.sw rfl rfl rfl hb165 rfl rfl (StepS.ptrf rfl kfieldB_61_4_4_true) ?_
                          obtain ⟨x172, hx173, hj167⟩ := bind_some hj167
                          refine TS.sw rfl rfl rfl hb165 rfl rfl (StepS.ldN (j := 4) rfl (Ent.at 0 rfl) kscalB_36_true hx173 rfl rfl) ?_
                          refine TS.sw rfl rfl rfl hb165 rfl rfl (StepS.move rfl) ?_
                          refine TS.sw rfl rfl rfl hb165 rfl rfl (StepS.ari rfl rfl rfl) ?_
                          obtain ⟨x174, hx175, hj167⟩ := bind_some hj167
                          refine TS.sw rfl rfl rfl hb165 rfl rfl (StepS.idx rfl rfl (OwnS.rd (SN.piece (Ent.at 0 rfl) hx173 1 rfl)) ksliceB_36_52_2_true (idx_spec hx175).1 (idxm_lt hx175)) ?_
                          refine TS.sw rfl rfl rfl hb165 rfl rfl (StepS.ldE rfl (OwnS.rd (SN.piece (Ent.at 0 rfl) hx173 1 rfl)) kaggB_52_2_true rfl (idxm hx175)) ?_
                          refine TS.sw rfl rfl rfl hb165 rfl rfl (StepS.neSt (r := ((x170.1 == x174.1) && ((x170.2 == x174.2) && true))) kunderlying_52_some_struct_fieldsOf_52 kstoodInHeld_52_false keqGuardType_depth_52_false rfl rfl (by kernel_rfl)) ?_
                          cases hj167
                          refine TS.sw rfl rfl rfl hb162 rfl rfl (StepS.pickT rfl hb165 rfl) ?_
                          exact TS.up1 18 0 rfl rfl rfl rfl
                        · replace hj167 := cond_f hb165 hj167
                          cases hj167
                          refine TS.skip rfl rfl rfl (skipF hb165) rfl rfl ?_
                          refine TS.skip rfl rfl rfl (skipF hb165) rfl rfl ?_
                          refine TS.skip rfl rfl rfl (skipF hb165) rfl rfl ?_
                          refine TS.skip rfl rfl rfl (skipF hb165) rfl rfl ?_
                          refine TS.skip rfl rfl rfl (skipF hb165) rfl rfl ?_
                          refine TS.skip rfl rfl rfl (skipF hb165) rfl rfl ?_
                          refine TS.skip rfl rfl rfl (skipF hb165) rfl rfl ?_
                          refine TS.skip rfl rfl rfl (skipF hb165) rfl rfl ?_
                          refine TS.skip rfl rfl rfl (skipF hb165) rfl rfl ?_
                          refine TS.skip rfl rfl rfl (skipF hb165) rfl rfl ?_
                          refine TS.skip rfl rfl rfl (skipF hb165) rfl rfl ?_
                          refine TS.skip rfl rfl rfl (skipF hb165) rfl rfl ?_
                          refine TS.skip rfl rfl rfl (skipF hb165) rfl rfl ?_
                          refine TS.skip rfl rfl rfl (skipF hb165) rfl rfl ?_
                          refine TS.skip rfl rfl rfl (skipF hb165) rfl rfl ?_
                          refine TS.skip rfl rfl rfl (skipF hb165) rfl rfl ?_
                          refine TS.skip rfl rfl rfl (skipF hb165) rfl rfl ?_
                          refine TS.sw rfl rfl rfl hb162 rfl rfl (StepS.pickF rfl hb165 rfl) ?_
                          exact TS.up1 18 0 rfl rfl rfl rfl
                      cases hj164
                      refine TS.s rfl rfl rfl (StepS.pickF rfl hb162 rfl) ?_
                      exact TS.up1 5 0 rfl rfl rfl rfl
                  refine TS.code ?_
                  refine TC.cond rfl (fun hc176 => ?_) (fun hc176 => ?_)
                  · replace hm := cond_t hc176 hm
                    refine TC.k ?_
                    refine TC.region_tail 9 kfollows_mixedOrders_true (by kernel_rfl) ?_
                    refine TS.s rfl rfl rfl (StepS.move rfl) ?_
                    refine TS.s rfl rfl rfl (StepS.nilc rfl) ?_
                    refine TS.s rfl rfl rfl (StepS.ptrf rfl kfieldB_61_7_7_true) ?_
                    obtain ⟨x177, hx178, hm⟩ := bind_some hm
                    refine TS.s rfl rfl rfl (StepS.ldN (j := 7) rfl (Ent.at 0 rfl) kscalB_24_true hx178 rfl rfl) ?_
                    refine TS.s rfl rfl rfl (StepS.fld rfl kfieldB_45_2_2_true) ?_
                    refine TS.s rfl rfl rfl (StepS.ldB rfl (Ent.at 2 rfl) kscalB_3_true rfl) ?_
                    refine TS.s rfl rfl rfl (StepS.move rfl) ?_
                    refine TS.s rfl rfl rfl (StepS.ari rfl rfl rfl) ?_
                    obtain ⟨x179, hx180, hm⟩ := bind_some hm
                    refine TS.s rfl rfl rfl (StepS.idx rfl rfl (OwnS.rd (SN.piece (Ent.at 0 rfl) hx178 3 rfl)) ksliceB_24_3_1_true (idx_spec hx180).1 (idxm_lt hx180)) ?_
                    refine TS.nil ?_
                    refine TO.at ?_
                    refine TO.openN (L' := (OwnS 3 1 (cv (gr hs152 a1.2.1.toNat) 0) (x177.2.2.2.1.map cI) :: OwnS 52 2 (cv (gr hs152 a1.2.1.toNat) 1) (x177.2.2.2.2.1.map cTii) :: OwnS 3 1 (cv (gr hs152 a1.2.1.toNat) 2) (x177.2.2.2.2.2.2.1.map cI) :: OwnS 3 1 (cv (gr hs152 a1.2.1.toNat) 3) (x177.2.2.2.2.2.2.2.map cI) :: SNh 61 8 nT61 h0_1 hs152 (y153) a1.2.1.toNat [I x177.1, I x177.2.1, I x177.2.2.1, (cv (gr hs152 a1.2.1.toNat) 0), (cv (gr hs152 a1.2.1.toNat) 1), I x177.2.2.2.2.2.1, (cv (gr hs152 a1.2.1.toNat) 2), (cv (gr hs152 a1.2.1.toNat) 3)] :: Bx b0_ 59 [h0_1, h0_3] :: Bx b5 45 [I a1.1, I a1.2.1, I a1.2.2.1, I a1.2.2.2] :: OwnS 79 2 h0_3 (a0.2.map cTii) :: L)) rfl hx178 rfl ?_
                    refine TO.stO (i := a1.2.2.1.toNat) (off := 0) (us := [I (w64 (x158 - 1))]) 3 (w64 (x158 - 1)) rfl rfl rfl ksizeB_3_1_true rfl rfl rfl (idx_spec hx180).2 rfl (by simp [Value.oneCell']) rfl ?_
                    refine TO.ghost (fun _ s => Sat.front 4 rfl s) ?_
                    refine TO.ghost (fun _ s => Sat.front 4 rfl s) ?_
                    refine TO.ghost (fun _ s => Sat.front 4 rfl s) ?_
                    refine TO.ghost (fun _ s => Sat.front 4 rfl s) ?_
                    refine TO.ghost (fun _ s => Sat.front 4 rfl s) ?_
                    obtain ⟨y186, hy187, hm⟩ := bind_some hm
                    refine TO.closeN (T := nT61) (cs := [I x177.1, I x177.2.1, I x177.2.2.1, (cv (gr hs152 a1.2.1.toNat) 0), (cv (gr hs152 a1.2.1.toNat) 1), I x177.2.2.2.2.2.1, (cv (gr hs152 a1.2.1.toNat) 2), (cv (gr hs152 a1.2.1.toNat) 3)]) [(cv (gr hs152 a1.2.1.toNat) 0), (cv (gr hs152 a1.2.1.toNat) 1), (cv (gr hs152 a1.2.1.toNat) 2), (cv (gr hs152 a1.2.1.toNat) 3)] (x177.1, x177.2.1, x177.2.2.1, x177.2.2.2.1, x177.2.2.2.2.1, x177.2.2.2.2.2.1, x177.2.2.2.2.2.2.1, x177.2.2.2.2.2.2.2.set a1.2.2.1.toNat (w64 (x158 - 1))) rfl rfl hx178 (Option.some.inj hy187) fun hs185 => ?_
                    refine TO.code ?_
                    refine TC.k ?_
                    refine TC.region ?_
                    refine TO.s rfl rfl rfl (StepS.assign rfl) ?_
                    refine TO.code ?_
                    cases hm
                    refine TC.ret fun a w e s => ?_
                    refine FRet.mk1 (P := Try.prog) (fn := Try.f16) (t := 6) e rfl rfl ?_
                    refine ⟨_, _, rfl, ⟨(hs185), (h0_3), rfl, rfl⟩, ?_⟩
                    refine s.mono fun _ s => ?_
                    replace s := Sat.front 3 rfl s
                    replace s := Sat.front 1 rfl s
                    replace s := Sat.front 2 rfl s
                    replace s := Sat.erase 3 s
                    exact s
                  · replace hm := cond_f hc176 hm
                    refine TC.skipk ?_
                    refine TC.k ?_
                    refine TC.k ?_
                    refine TC.region_quiet kfollows_mixedOrders_true (by kernel_rfl) ?_
                    refine TQ.s rfl rfl rfl (StepS.move rfl).q ?_
                    refine TQ.s rfl rfl rfl (StepS.nilc rfl).q ?_
                    refine TQ.s rfl rfl rfl (StepS.ptrf rfl kfieldB_61_4_4_true).q ?_
                    obtain ⟨x188, hx189, hm⟩ := bind_some hm
                    refine TQ.s rfl rfl rfl (StepS.ldN (j := 4) rfl (Ent.at 0 rfl) kscalB_36_true hx189 rfl rfl).q ?_
                    refine TQ.s rfl rfl rfl (StepS.move rfl).q ?_
                    refine TQ.s rfl rfl rfl (StepS.nilc rfl).q ?_
                    refine TQ.s rfl rfl rfl (StepS.ptrf rfl kfieldB_61_4_4_true).q ?_
                    obtain ⟨x190, hx191, hm⟩ := bind_some hm
                    refine TQ.s rfl rfl rfl (StepS.ldN (j := 4) rfl (Ent.at 0 rfl) kscalB_36_true hx191 rfl rfl).q ?_
                    obtain ⟨r192, hc193, hm⟩ := bind_some hm
                    refine TQ.s rfl rfl rfl (StepQ.call kcallB_17_true rfl rfl (fun _ st => C17 (OwnS.rd (SN.piece (Ent.at 0 rfl) hx189 1 rfl)) (OwnS.rd (SN.piece (Ent.at 0 rfl) hx191 1 rfl)) hc193 st)) ?_
                    refine TQ.s rfl rfl rfl (StepS.not rfl).q ?_
                    refine TQ.code ?_
                    obtain ⟨y194, hj196, hm⟩ := bind_some hm
                    first | refine TC.cutM (fun a w => ∃ hs195 : List (List Value), Mid 478 B [(4, .pointer (some ⟨b5, 0, none⟩)), (8, ptr h0_1 (a1.2.1.toNat * 8)), (10, ptr h0_1 (a1.2.2.1.toNat * 8))] (SN 61 8 nT61 h0_1 hs195 (y194) :: Bx b0_ 59 [h0_1, h0_3] :: Bx b5 45 [I a1.1, I a1.2.1, I a1.2.2.1, I a1.2.2.2] :: OwnS 79 2 h0_3 (a0.2.map cTii) :: L) a w) ?_ ?_ | refine TC.cutX (fun a w => ∃ hs195 : List (List Value), Mid 478 B [(4, .pointer (some ⟨b5, 0, none⟩)), (8, ptr h0_1 (a1.2.1.toNat * 8)), (10, ptr h0_1 (a1.2.2.1.toNat * 8))] (SN 61 8 nT61 h0_1 hs195 (y194) :: Bx b0_ 59 [h0_1, h0_3] :: Bx b5 45 [I a1.1, I a1.2.1, I a1.2.2.1, I a1.2.2.2] :: OwnS 79 2 h0_3 (a0.2.map cTii) :: L) a w) ?_ ?_
                    · refine TC.cond rfl (fun hc197 => ?_) (fun hc197 => ?_)
                      · replace hj196 := cond_t hc197 hj196
                        refine TC.region ?_
                        refine TO.s rfl rfl rfl (StepS.move rfl) ?_
                        refine TO.lit0 (f := cTii) ksliceB_36_52_2_true rfl fun v198 => ?_
                        refine TO.s rfl rfl rfl (StepS.move rfl) ?_
                        refine TO.s rfl rfl rfl (StepS.nilc rfl) ?_
                        refine TO.s rfl rfl rfl (StepS.ptrf rfl kfieldB_61_4_4_true) ?_
                        obtain ⟨x200, hx201, hj196⟩ := bind_some hj196
                        refine TO.s rfl rfl rfl (StepS.ldN (j := 4) rfl (Ent.at 1 rfl) kscalB_36_true hx201 rfl rfl) ?_
                        obtain ⟨y202, hk203, hj196⟩ := bind_some hj196
                        refine TO.app (k := 0) (f := cTii) kelemB_36_52_2_16_true (by decide) rfl rfl rfl (OwnS.rd (SN.piece (Ent.at 1 rfl) hx201 1 rfl)) hk203 (fun x c hc => by simp [Value.oneCell'] at hc ⊢; first | (obtain rfl := hc; rfl) | (rcases hc with rfl | rfl <;> rfl)) rfl rfl fun v204 => ?_
                        refine TO.s rfl rfl rfl (StepS.nilc rfl) ?_
                        refine TO.s rfl rfl rfl (StepS.ptrf rfl kfieldB_61_4_4_true) ?_
                        obtain ⟨x205, hx206, hj196⟩ := bind_some hj196
                        refine TO.ghost (fun _ s => Sat.front 1 rfl s) ?_
                        refine TO.openN (L' := (OwnS 3 1 (cv (gr hs152 a1.2.2.1.toNat) 0) (x205.2.2.2.1.map cI) :: OwnS 52 2 (cv (gr hs152 a1.2.2.1.toNat) 1) (x205.2.2.2.2.1.map cTii) :: OwnS 3 1 (cv (gr hs152 a1.2.2.1.toNat) 2) (x205.2.2.2.2.2.2.1.map cI) :: OwnS 3 1 (cv (gr hs152 a1.2.2.1.toNat) 3) (x205.2.2.2.2.2.2.2.map cI) :: SNh 61 8 nT61 h0_1 hs152 (y153) a1.2.2.1.toNat [I x205.1, I x205.2.1, I x205.2.2.1, (cv (gr hs152 a1.2.2.1.toNat) 0), (cv (gr hs152 a1.2.2.1.toNat) 1), I x205.2.2.2.2.2.1, (cv (gr hs152 a1.2.2.1.toNat) 2), (cv (gr hs152 a1.2.2.1.toNat) 3)] :: OwnS 52 2 v204 (y202.map cTii) :: Bx b0_ 59 [h0_1, h0_3] :: Bx b5 45 [I a1.1, I a1.2.1, I a1.2.2.1, I a1.2.2.2] :: OwnS 79 2 h0_3 (a0.2.map cTii) :: L)) rfl hx206 rfl ?_
                        refine TO.pure (fun _ s => Rd.one (OwnS.rd (Ent.at 5 rfl)) s) fun oc211 => ?_
                        refine TO.ghost (fun _ s => Sat.front 4 rfl s) ?_
                        refine TO.stNh (i := a1.2.2.1) (off := 4) (us := [v204]) (cs' := [I x205.1, I x205.2.1, I x205.2.2.1, (cv (gr hs152 a1.2.2.1.toNat) 0), v204, I x205.2.2.2.2.2.1, (cv (gr hs152 a1.2.2.1.toNat) 2), (cv (gr hs152 a1.2.2.1.toNat) 3)]) rfl rfl ksizeB_36_1_true oc211.2 rfl rfl hx206 rfl (by intro u hu; simp only [List.mem_cons, List.not_mem_nil, or_false] at hu; rcases hu with rfl <;> first | exact oc211.1 | rfl) rfl ?_
                        refine TO.ghost (fun _ s => Sat.front 4 rfl s) ?_
                        refine TO.ghost (fun _ s => Sat.front 4 rfl s) ?_
                        refine TO.ghost (fun _ s => Sat.front 5 rfl s) ?_
                        refine TO.ghost (fun _ s => Sat.front 4 rfl s) ?_
                        obtain ⟨y213, hy214, hj196⟩ := bind_some hj196
                        refine TO.closeN (T := nT61) (cs := [I x205.1, I x205.2.1, I x205.2.2.1, (cv (gr hs152 a1.2.2.1.toNat) 0), v204, I x205.2.2.2.2.2.1, (cv (gr hs152 a1.2.2.1.toNat) 2), (cv (gr hs152 a1.2.2.1.toNat) 3)]) [(cv (gr hs152 a1.2.2.1.toNat) 0), v204, (cv (gr hs152 a1.2.2.1.toNat) 2), (cv (gr hs152 a1.2.2.1.toNat) 3)] (x205.1, x205.2.1, x205.2.2.1, x205.2.2.2.1, y202, x205.2.2.2.2.2.1, x205.2.2.2.2.2.2.1, x205.2.2.2.2.2.2.2) rfl rfl hx206 (Option.some.inj hy214) fun hs212 => ?_
                        cases hj196
                        refine TO.nil fun a w e s => ?_
                        exact ⟨hs212, e.sub (lk_of_allIn ⟨rfl, rfl, rfl, trivial⟩), s.mono fun _ s => (by exact Sat.by [4, 4, 4, 3] 4 1 (by kernel_rfl) s)⟩
                      · replace hj196 := cond_f hc197 hj196
                        cases hj196
                        refine TC.skip fun a w e s => ?_
                        exact ⟨hs152, e.sub (lk_of_allIn ⟨rfl, rfl, rfl, trivial⟩), s⟩
                    · intro a w ⟨hs195, he, hs⟩
                      refine TC.use ?_ he hs
                      refine TC.k ?_
                      refine TC.region_tail 12 kfollows_mixedOrders_true (by kernel_rfl) ?_
                      refine TS.s rfl rfl rfl (StepS.move rfl) ?_
                      refine TS.s rfl rfl rfl (StepS.nilc rfl) ?_
                      refine TS.s rfl rfl rfl (StepS.ptrf rfl kfieldB_61_6_6_true) ?_
                      obtain ⟨x215, hx216, hm⟩ := bind_some hm
                      refine TS.s rfl rfl rfl (StepS.ldN (j := 6) rfl (Ent.at 0 rfl) kscalB_24_true hx216 rfl rfl) ?_
                      refine TS.s rfl rfl rfl (StepS.fld rfl kfieldB_45_2_2_true) ?_
                      refine TS.s rfl rfl rfl (StepS.ldB rfl (Ent.at 2 rfl) kscalB_3_true rfl) ?_
                      refine TS.s rfl rfl rfl (StepS.move rfl) ?_
                      refine TS.s rfl rfl rfl (StepS.nilc rfl) ?_
                      refine TS.s rfl rfl rfl (StepS.ptrf rfl kfieldB_61_4_4_true) ?_
                      obtain ⟨x217, hx218, hm⟩ := bind_some hm
                      refine TS.s rfl rfl rfl (StepS.ldN (j := 4) rfl (Ent.at 0 rfl) kscalB_36_true hx218 rfl rfl) ?_
                      refine TS.s rfl rfl rfl (StepS.lenm rfl (OwnS.rd (SN.piece (Ent.at 0 rfl) hx218 1 rfl)) ksliceB_36_52_2_true rfl) ?_
                      obtain ⟨x219, hx220, hm⟩ := bind_some hm
                      refine TS.s rfl rfl rfl (StepS.idx rfl rfl (OwnS.rd (SN.piece (Ent.at 0 rfl) hx216 2 rfl)) ksliceB_24_3_1_true (idx_spec hx220).1 (idxm_lt hx220)) ?_
                      refine TS.nil ?_
                      refine TO.at ?_
                      refine TO.openN (L' := (OwnS 3 1 (cv (gr hs195 a1.2.1.toNat) 0) (x215.2.2.2.1.map cI) :: OwnS 52 2 (cv (gr hs195 a1.2.1.toNat) 1) (x215.2.2.2.2.1.map cTii) :: OwnS 3 1 (cv (gr hs195 a1.2.1.toNat) 2) (x215.2.2.2.2.2.2.1.map cI) :: OwnS 3 1 (cv (gr hs195 a1.2.1.toNat) 3) (x215.2.2.2.2.2.2.2.map cI) :: SNh 61 8 nT61 h0_1 hs195 (y194) a1.2.1.toNat [I x215.1, I x215.2.1, I x215.2.2.1, (cv (gr hs195 a1.2.1.toNat) 0), (cv (gr hs195 a1.2.1.toNat) 1), I x215.2.2.2.2.2.1, (cv (gr hs195 a1.2.1.toNat) 2), (cv (gr hs195 a1.2.1.toNat) 3)] :: Bx b0_ 59 [h0_1, h0_3] :: Bx b5 45 [I a1.1, I a1.2.1, I a1.2.2.1, I a1.2.2.2] :: OwnS 79 2 h0_3 (a0.2.map cTii) :: L)) rfl hx216 rfl ?_
                      refine TO.stO (i := a1.2.2.1.toNat) (off := 0) (us := [I (x217.2.2.2.2.1.length : Int)]) 2 (x217.2.2.2.2.1.length : Int) rfl rfl rfl ksizeB_3_1_true rfl rfl rfl (idx_spec hx220).2 rfl (by simp [Value.oneCell']) rfl ?_
                      refine TO.ghost (fun _ s => Sat.front 4 rfl s) ?_
                      refine TO.ghost (fun _ s => Sat.front 4 rfl s) ?_
                      refine TO.ghost (fun _ s => Sat.front 4 rfl s) ?_
                      refine TO.ghost (fun _ s => Sat.front 4 rfl s) ?_
                      refine TO.ghost (fun _ s => Sat.front 4 rfl s) ?_
                      obtain ⟨y226, hy227, hm⟩ := bind_some hm
                      refine TO.closeN (T := nT61) (cs := [I x215.1, I x215.2.1, I x215.2.2.1, (cv (gr hs195 a1.2.1.toNat) 0), (cv (gr hs195 a1.2.1.toNat) 1), I x215.2.2.2.2.2.1, (cv (gr hs195 a1.2.1.toNat) 2), (cv (gr hs195 a1.2.1.toNat) 3)]) [(cv (gr hs195 a1.2.1.toNat) 0), (cv (gr hs195 a1.2.1.toNat) 1), (cv (gr hs195 a1.2.1.toNat) 2), (cv (gr hs195 a1.2.1.toNat) 3)] (x215.1, x215.2.1, x215.2.2.1, x215.2.2.2.1, x215.2.2.2.2.1, x215.2.2.2.2.2.1, x215.2.2.2.2.2.2.1.set a1.2.2.1.toNat (x217.2.2.2.2.1.length : Int), x215.2.2.2.2.2.2.2) rfl rfl hx216 (Option.some.inj hy227) fun hs225 => ?_
                      refine TO.code ?_
                      refine TC.k ?_
                      refine TC.region_tail 12 kfollows_mixedOrders_true (by kernel_rfl) ?_
                      refine TS.s rfl rfl rfl (StepS.move rfl) ?_
                      refine TS.s rfl rfl rfl (StepS.nilc rfl) ?_
                      refine TS.s rfl rfl rfl (StepS.ptrf rfl kfieldB_61_7_7_true) ?_
                      obtain ⟨x228, hx229, hm⟩ := bind_some hm
                      refine TS.s rfl rfl rfl (StepS.ldN (j := 7) rfl (Ent.at 0 rfl) kscalB_24_true hx229 rfl rfl) ?_
                      refine TS.s rfl rfl rfl (StepS.fld rfl kfieldB_45_2_2_true) ?_
                      refine TS.s rfl rfl rfl (StepS.ldB rfl (Ent.at 2 rfl) kscalB_3_true rfl) ?_
                      refine TS.s rfl rfl rfl (StepS.move rfl) ?_
                      refine TS.s rfl rfl rfl (StepS.nilc rfl) ?_
                      refine TS.s rfl rfl rfl (StepS.ptrf rfl kfieldB_61_4_4_true) ?_
                      obtain ⟨x230, hx231, hm⟩ := bind_some hm
                      refine TS.s rfl rfl rfl (StepS.ldN (j := 4) rfl (Ent.at 0 rfl) kscalB_36_true hx231 rfl rfl) ?_
                      refine TS.s rfl rfl rfl (StepS.lenm rfl (OwnS.rd (SN.piece (Ent.at 0 rfl) hx231 1 rfl)) ksliceB_36_52_2_true rfl) ?_
                      obtain ⟨x232, hx233, hm⟩ := bind_some hm
                      refine TS.s rfl rfl rfl (StepS.idx rfl rfl (OwnS.rd (SN.piece (Ent.at 0 rfl) hx229 3 rfl)) ksliceB_24_3_1_true (idx_spec hx233).1 (idxm_lt hx233)) ?_
                      refine TS.nil ?_
                      refine TO.at ?_
                      refine TO.openN (L' := (OwnS 3 1 (cv (gr hs225 a1.2.1.toNat) 0) (x228.2.2.2.1.map cI) :: OwnS 52 2 (cv (gr hs225 a1.2.1.toNat) 1) (x228.2.2.2.2.1.map cTii) :: OwnS 3 1 (cv (gr hs225 a1.2.1.toNat) 2) (x228.2.2.2.2.2.2.1.map cI) :: OwnS 3 1 (cv (gr hs225 a1.2.1.toNat) 3) (x228.2.2.2.2.2.2.2.map cI) :: SNh 61 8 nT61 h0_1 hs225 (y226) a1.2.1.toNat [I x228.1, I x228.2.1, I x228.2.2.1, (cv (gr hs225 a1.2.1.toNat) 0), (cv (gr hs225 a1.2.1.toNat) 1), I x228.2.2.2.2.2.1, (cv (gr hs225 a1.2.1.toNat) 2), (cv (gr hs225 a1.2.1.toNat) 3)] :: Bx b0_ 59 [h0_1, h0_3] :: Bx b5 45 [I a1.1, I a1.2.1, I a1.2.2.1, I a1.2.2.2] :: OwnS 79 2 h0_3 (a0.2.map cTii) :: L)) rfl hx229 rfl ?_
                      refine TO.stO (i := a1.2.2.1.toNat) (off := 0) (us := [I (x230.2.2.2.2.1.length : Int)]) 3 (x230.2.2.2.2.1.length : Int) rfl rfl rfl ksizeB_3_1_true rfl rfl rfl (idx_spec hx233).2 rfl (by simp [Value.oneCell']) rfl ?_
                      refine TO.ghost (fun _ s => Sat.front 4 rfl s) ?_
                      refine TO.ghost (fun _ s => Sat.front 4 rfl s) ?_
                      refine TO.ghost (fun _ s => Sat.front 4 rfl s) ?_
                      refine TO.ghost (fun _ s => Sat.front 4 rfl s) ?_
                      refine TO.ghost (fun _ s => Sat.front 4 rfl s) ?_
                      obtain ⟨y239, hy240, hm⟩ := bind_some hm
                      refine TO.closeN (T := nT61) (cs := [I x228.1, I x228.2.1, I x228.2.2.1, (cv (gr hs225 a1.2.1.toNat) 0), (cv (gr hs225 a1.2.1.toNat) 1), I x228.2.2.2.2.2.1, (cv (gr hs225 a1.2.1.toNat) 2), (cv (gr hs225 a1.2.1.toNat) 3)]) [(cv (gr hs225 a1.2.1.toNat) 0), (cv (gr hs225 a1.2.1.toNat) 1), (cv (gr hs225 a1.2.1.toNat) 2), (cv (gr hs225 a1.2.1.toNat) 3)] (x228.1, x228.2.1, x228.2.2.1, x228.2.2.2.1, x228.2.2.2.2.1, x228.2.2.2.2.2.1, x228.2.2.2.2.2.2.1, x228.2.2.2.2.2.2.2.set a1.2.2.1.toNat (x230.2.2.2.2.1.length : Int)) rfl rfl hx229 (Option.some.inj hy240) fun hs238 => ?_
                      refine TO.code ?_
                      refine TC.k ?_
                      refine TC.region_still kfollows_mixedOrders_true (by kernel_rfl) ?_
                      refine TS.s rfl rfl rfl (StepS.move rfl) ?_
                      refine TS.s rfl rfl rfl (StepS.nilc rfl) ?_
                      refine TS.s rfl rfl rfl (StepS.ptrf rfl kfieldB_61_5_5_true) ?_
                      obtain ⟨x241, hx242, hm⟩ := bind_some hm
                      refine TS.s rfl rfl rfl (StepS.ldN (j := 5) rfl (Ent.at 0 rfl) kscalB_3_true hx242 rfl rfl) ?_
                      refine TS.s rfl rfl rfl (StepS.move rfl) ?_
                      refine TS.s rfl rfl rfl (StepS.nilc rfl) ?_
                      refine TS.s rfl rfl rfl (StepS.ptrf rfl kfieldB_61_5_5_true) ?_
                      obtain ⟨x243, hx244, hm⟩ := bind_some hm
                      refine TS.s rfl rfl rfl (StepS.ldN (j := 5) rfl (Ent.at 0 rfl) kscalB_3_true hx244 rfl rfl) ?_
                      refine TS.s rfl rfl rfl (StepS.cmp rfl rfl rfl) ?_
                      refine TS.code ?_
                      obtain ⟨y245, hj247, hm⟩ := bind_some hm
                      first | refine TC.cutM (fun a w => ∃ hs246 : List (List Value), Mid 478 B [] (SN 61 8 nT61 h0_1 hs246 (y245) :: Bx b0_ 59 [h0_1, h0_3] :: Bx b5 45 [I a1.1, I a1.2.1, I a1.2.2.1, I a1.2.2.2] :: OwnS 79 2 h0_3 (a0.2.map cTii) :: L) a w) ?_ ?_ | refine TC.cutX (fun a w => ∃ hs246 : List (List Value), Mid 478 B [] (SN 61 8 nT61 h0_1 hs246 (y245) :: Bx b0_ 59 [h0_1, h0_3] :: Bx b5 45 [I a1.1, I a1.2.1, I a1.2.2.1, I a1.2.2.2] :: OwnS 79 2 h0_3 (a0.2.map cTii) :: L) a w) ?_ ?_
                      · refine TC.cond rfl (fun hc248 => ?_) (fun hc248 => ?_)
                        · replace hj247 := cond_t hc248 hj247
                          refine TC.region ?_
                          refine TO.s rfl rfl rfl (StepS.move rfl) ?_
                          refine TO.s rfl rfl rfl (StepS.move rfl) ?_
                          refine TO.s rfl rfl rfl (StepS.nilc rfl) ?_
                          refine TO.s rfl rfl rfl (StepS.ptrf rfl kfieldB_61_5_5_true) ?_
                          obtain ⟨x249, hx250, hj247⟩ := bind_some hj247
                          refine TO.s rfl rfl rfl (StepS.ldN (j := 5) rfl (Ent.at 0 rfl) kscalB_3_true hx250 rfl rfl) ?_
                          refine TO.s rfl rfl rfl (StepS.nilc rfl) ?_
                          refine TO.s rfl rfl rfl (StepS.ptrf rfl kfieldB_61_5_5_true) ?_
                          obtain ⟨x251, hx252, hj247⟩ := bind_some hj247
                          refine TO.openN (L' := (OwnS 3 1 (cv (gr hs238 a1.2.2.1.toNat) 0) (x251.2.2.2.1.map cI) :: OwnS 52 2 (cv (gr hs238 a1.2.2.1.toNat) 1) (x251.2.2.2.2.1.map cTii) :: OwnS 3 1 (cv (gr hs238 a1.2.2.1.toNat) 2) (x251.2.2.2.2.2.2.1.map cI) :: OwnS 3 1 (cv (gr hs238 a1.2.2.1.toNat) 3) (x251.2.2.2.2.2.2.2.map cI) :: SNh 61 8 nT61 h0_1 hs238 (y239) a1.2.2.1.toNat [I x251.1, I x251.2.1, I x251.2.2.1, (cv (gr hs238 a1.2.2.1.toNat) 0), (cv (gr hs238 a1.2.2.1.toNat) 1), I x251.2.2.2.2.2.1, (cv (gr hs238 a1.2.2.1.toNat) 2), (cv (gr hs238 a1.2.2.1.toNat) 3)] :: Bx b0_ 59 [h0_1, h0_3] :: Bx b5 45 [I a1.1, I a1.2.1, I a1.2.2.1, I a1.2.2.2] :: OwnS 79 2 h0_3 (a0.2.map cTii) :: L)) rfl hx252 rfl ?_
                          refine TO.ghost (fun _ s => Sat.front 4 rfl s) ?_
                          refine TO.stNh (i := a1.2.2.1) (off := 5) (us := [I x249.2.2.2.2.2.1]) (cs' := [I x251.1, I x251.2.1, I x251.2.2.1, (cv (gr hs238 a1.2.2.1.toNat) 0), (cv (gr hs238 a1.2.2.1.toNat) 1), I x249.2.2.2.2.2.1, (cv (gr hs238 a1.2.2.1.toNat) 2), (cv (gr hs238 a1.2.2.1.toNat) 3)]) rfl rfl ksizeB_3_1_true rfl rfl rfl hx252 rfl (by simp [Value.oneCell']) rfl ?_
                          refine TO.ghost (fun _ s => Sat.front 4 rfl s) ?_
                          refine TO.ghost (fun _ s => Sat.front 4 rfl s) ?_
                          refine TO.ghost (fun _ s => Sat.front 4 rfl s) ?_
                          refine TO.ghost (fun _ s => Sat.front 4 rfl s) ?_
                          obtain ⟨y258, hy259, hj247⟩ := bind_some hj247
                          refine TO.closeN (T := nT61) (cs := [I x251.1, I x251.2.1, I x251.2.2.1, (cv (gr hs238 a1.2.2.1.toNat) 0), (cv (gr hs238 a1.2.2.1.toNat) 1), I x249.2.2.2.2.2.1, (cv (gr hs238 a1.2.2.1.toNat) 2), (cv (gr hs238 a1.2.2.1.toNat) 3)]) [(cv (gr hs238 a1.2.2.1.toNat) 0), (cv (gr hs238 a1.2.2.1.toNat) 1), (cv (gr hs238 a1.2.2.1.toNat) 2), (cv (gr hs238 a1.2.2.1.toNat) 3)] (x251.1, x251.2.1, x251.2.2.1, x251.2.2.2.1, x251.2.2.2.2.1, x249.2.2.2.2.2.1, x251.2.2.2.2.2.2.1, x251.2.2.2.2.2.2.2) rfl rfl hx252 (Option.some.inj hy259) fun hs257 => ?_
                          cases hj247
                          refine TO.nil fun a w e s => ?_
                          exact ⟨hs257, e.sub (lk_of_allIn trivial), s⟩
                        · replace hj247 := cond_f hc248 hj247
                          cases hj247
                          refine TC.skip fun a w e s => ?_
                          exact ⟨hs238, e.sub (lk_of_allIn trivial), s⟩
                      · intro a w ⟨hs246, he, hs⟩
                        refine TC.use ?_ he hs
                        refine TC.k ?_
                        refine TC.region ?_
                        refine TO.s rfl rfl rfl (StepS.assign rfl) ?_
                        refine TO.code ?_
                        cases hm
                        refine TC.ret fun a w e s => ?_
                        refine FRet.mk1 (P := Try.prog) (fn := Try.f16) (t := 6) e rfl rfl ?_
                        refine ⟨_, _, rfl, ⟨(hs246), (h0_3), rfl, rfl⟩, ?_⟩
                        refine s.mono fun _ s => ?_
                        replace s := Sat.front 3 rfl s
                        replace s := Sat.front 1 rfl s
                        replace s := Sat.front 2 rfl s
                        replace s := Sat.erase 3 s
                        exact s
          · replace hm := cond_f hc133 hm
            refine TC.k ?_
            refine TC.region ?_
            refine TO.s rfl rfl rfl (StepS.cmp rfl rfl rfl) ?_
            refine TO.s rfl rfl rfl (StepS.assign rfl) ?_
            refine TO.code ?_
            refine TC.cond rfl (fun hc260 => ?_) (fun hc260 => ?_)
            · replace hm := cond_t hc260 hm
              refine TC.k ?_
              refine TC.k ?_
              refine TC.region ?_
              refine TO.s rfl rfl rfl (StepS.move rfl) ?_
              refine TO.s rfl rfl rfl (StepS.nilc rfl) ?_
              refine TO.s rfl rfl rfl (StepS.ptrf rfl kfieldB_61_1_1_true) ?_
              refine TO.s rfl rfl rfl (StepS.ldN (j := 1) rfl (Ent.at 2 rfl) kscalB_3_true hx16 rfl rfl) ?_
              refine TO.s rfl rfl rfl (StepS.cmp rfl rfl rfl) ?_
              refine TO.code ?_
              refine TC.cond rfl (fun hc261 => ?_) (fun hc261 => ?_)
              · replace hm := cond_t hc261 hm
                refine TC.k ?_
                refine TC.region ?_
                refine TO.s rfl rfl rfl (StepS.assign rfl) ?_
                refine TO.code ?_
                cases hm
                refine TC.ret fun a w e s => ?_
                refine FRet.mk1 (P := Try.prog) (fn := Try.f16) (t := 6) e rfl rfl ?_
                refine ⟨_, _, rfl, ⟨(h0_2), (h0_3), rfl, rfl⟩, ?_⟩
                refine s.mono fun _ s => ?_
                replace s := Sat.front 3 rfl s
                replace s := Sat.front 3 rfl s
                replace s := Sat.front 3 rfl s
                replace s := Sat.erase 3 s
                exact s
              · replace hm := cond_f hc261 hm
                refine TC.skipk ?_
                refine TC.k ?_
                refine TC.k ?_
                refine TC.region ?_
                refine TO.s rfl rfl rfl (StepS.move rfl) ?_
                refine TO.s rfl rfl rfl (StepS.nilc rfl) ?_
                refine TO.s rfl rfl rfl (StepS.ptrf rfl kfieldB_61_4_4_true) ?_
                refine TO.s rfl rfl rfl (StepS.ldN (j := 4) rfl (Ent.at 2 rfl) kscalB_36_true hx16 rfl rfl) ?_
                refine TO.s rfl rfl rfl (StepS.lenm rfl (OwnS.rd (SN.piece (Ent.at 2 rfl) hx16 1 rfl)) ksliceB_36_52_2_true rfl) ?_
                refine TO.s rfl rfl rfl (StepS.cmp rfl rfl rfl) ?_
                refine TO.code ?_
                refine TC.cond rfl (fun hc262 => ?_) (fun hc262 => ?_)
                · replace hm := cond_t hc262 hm
                  refine TC.k ?_
                  refine TC.region ?_
                  refine TO.s rfl rfl rfl (StepS.assign rfl) ?_
                  refine TO.code ?_
                  cases hm
                  refine TC.ret fun a w e s => ?_
                  refine FRet.mk1 (P := Try.prog) (fn := Try.f16) (t := 6) e rfl rfl ?_
                  refine ⟨_, _, rfl, ⟨(h0_2), (h0_3), rfl, rfl⟩, ?_⟩
                  refine s.mono fun _ s => ?_
                  replace s := Sat.front 3 rfl s
                  replace s := Sat.front 3 rfl s
                  replace s := Sat.front 3 rfl s
                  replace s := Sat.erase 3 s
                  exact s
                · replace hm := cond_f hc262 hm
                  refine TC.skipk ?_
                  obtain ⟨y264, hj266, hm⟩ := bind_some hm
                  first | refine TC.cutM (fun a w => ∃ hs265 : List (List Value), Mid 478 B [] (Bx b5 45 [I a1.1, I a1.2.1, I a1.2.2.1, I a1.2.2.2] :: Bx b0_ 59 [h0_1, h0_3] :: SN 61 8 nT61 h0_1 hs265 (y264) :: OwnS 79 2 h0_3 (a0.2.map cTii) :: L) a w) ?_ ?_ | refine TC.cutX (fun a w => ∃ hs265 : List (List Value), Mid 478 B [] (Bx b5 45 [I a1.1, I a1.2.1, I a1.2.2.1, I a1.2.2.2] :: Bx b0_ 59 [h0_1, h0_3] :: SN 61 8 nT61 h0_1 hs265 (y264) :: OwnS 79 2 h0_3 (a0.2.map cTii) :: L) a w) ?_ ?_
                  · obtain ⟨yq263_6_1, hkq263_6_2, hj266⟩ := bind_some hj266
                    obtain ⟨yq263_15_1, hkq263_15_2, hj266⟩ := bind_some hj266
                    obtain ⟨yq263_18_7, hyq263_18_8, hj266⟩ := bind_some hj266
                    refine TC.region_any (Bx b5 45 [I a1.1, I a1.2.1, I a1.2.2.1, I a1.2.2.2] :: Bx b0_ 59 [h0_1, h0_3] :: SN 61 8 nT61 h0_1 h0_2 (a0.1) :: OwnS 79 2 h0_3 (a0.2.map cTii) :: L) 18 19 kfollows_mixedOrders_true rfl ?_
                    refine TA.takeW 0 rfl rfl rfl rfl (StepS.move rfl) (by kernel_rfl) (by kernel_rfl) (by kernel_rfl) rfl (.inr (fun _ s => s)) ?_
                    refine TA.takeW 2 rfl rfl rfl rfl (StepS.move rfl) (by kernel_rfl) (by kernel_rfl) (by kernel_rfl) rfl (.inr (fun _ s => s)) ?_
                    refine TA.takeW 3 rfl rfl rfl rfl (StepS.nilc rfl) (by kernel_rfl) (by kernel_rfl) (by kernel_rfl) rfl (.inr (fun _ s => s)) ?_
                    refine TA.takeW 4 rfl rfl rfl rfl (StepS.ptrf rfl kfieldB_61_4_4_true) (by kernel_rfl) (by kernel_rfl) (by kernel_rfl) rfl (.inr (fun _ s => s)) ?_
                    refine TA.take 5 rfl rfl rfl rfl (StepS.ldN (j := 4) rfl (Ent.at 2 rfl) kscalB_36_true hx16 rfl rfl) (by kernel_rfl) (by kernel_rfl) (by kernel_rfl) (by kernel_rfl) (by kernel_rfl) (fun _ s => s) ?_
                    refine TA.takeW 7 rfl rfl rfl rfl (StepS.move rfl) (by kernel_rfl) (by kernel_rfl) (by kernel_rfl) rfl (.inr (fun _ s => s)) ?_
                    refine TA.takeW 8 rfl rfl rfl rfl (StepS.nilc rfl) (by kernel_rfl) (by kernel_rfl) (by kernel_rfl) rfl (.inr (fun _ s => s)) ?_
                    refine TA.takeW 9 rfl rfl rfl rfl (StepS.ptrf rfl kfieldB_61_0_0_true) (by kernel_rfl) (by kernel_rfl) (by kernel_rfl) rfl (.inr (fun _ s => s)) ?_
                    refine TA.take 10 rfl rfl rfl rfl (StepS.ldN (j := 0) rfl (Ent.at 2 rfl) kscalB_3_true hx16 rfl rfl) (by kernel_rfl) (by kernel_rfl) (by kernel_rfl) (by kernel_rfl) (by kernel_rfl) (fun _ s => s) ?_
                    refine TA.takeW 11 rfl rfl rfl rfl (StepS.fld rfl kfieldB_45_3_3_true) (by kernel_rfl) (by kernel_rfl) (by kernel_rfl) rfl (.inr (fun _ s => s)) ?_
                    refine TA.take 12 rfl rfl rfl rfl (StepS.ldB rfl (Ent.at 0 rfl) kscalB_3_true rfl) (by kernel_rfl) (by kernel_rfl) (by kernel_rfl) (by kernel_rfl) (by kernel_rfl) (fun _ s => s) ?_
                    refine TA.takeW 13 rfl rfl rfl rfl (StepS.build (cs := [I x15.1, I a1.2.2.2]) rfl (by kernel_rfl)) (by kernel_rfl) (by kernel_rfl) (by kernel_rfl) rfl (.inr (fun _ s => s)) ?_
                    refine TA.all2 (i := 1) (j := 14) (by kernel_rfl) ?_ ?_
                    · refine TB.of rfl ?_
                      refine TO.lit0 (f := cTii) ksliceB_36_52_2_true rfl fun vq263_1_1 => ?_
                      refine TA.back (.inr (fun _ s => Sat.by [4, 4, 4, 4] 4 1 (by kernel_rfl) s)) ?_
                      refine TA.asL (L' := (OwnS 52 2 vq263_1_1 (([] : List (Int × Int)).map cTii) :: Bx b5 45 [I a1.1, I a1.2.1, I a1.2.2.1, I a1.2.2.2] :: Bx b0_ 59 [h0_1, h0_3] :: SN 61 8 nT61 h0_1 h0_2 (a0.1) :: OwnS 79 2 h0_3 (a0.2.map cTii) :: L)) (listed' := #[true, true, true, true, true, true, false, true, true, true, true, true, true, true, false, false, false, false, false]) (by kernel_rfl) (by kernel_rfl) ?_
                      refine TA.all2 (i := 6) (j := 14) (by kernel_rfl) ?_ ?_
                      · refine TB.of rfl ?_
                        refine TO.app (k := 0) (f := cTii) kelemB_36_52_2_16_true (by decide) rfl rfl rfl (OwnS.rd (SN.piece (Ent.at 3 rfl) hx16 1 rfl)) hkq263_6_2 (fun x c hc => by simp [Value.oneCell'] at hc ⊢; first | (obtain rfl := hc; rfl) | (rcases hc with rfl | rfl <;> rfl)) rfl rfl fun vq263_6_3 => ?_
                        refine TA.back (.inr (fun _ s => Sat.by [4, 4, 4, 4] 4 1 (by kernel_rfl) s)) ?_
                        refine TA.asL (L' := (OwnS 52 2 vq263_6_3 (yq263_6_1.map cTii) :: Bx b5 45 [I a1.1, I a1.2.1, I a1.2.2.1, I a1.2.2.2] :: Bx b0_ 59 [h0_1, h0_3] :: SN 61 8 nT61 h0_1 h0_2 (a0.1) :: OwnS 79 2 h0_3 (a0.2.map cTii) :: L)) (listed' := #[true, true, true, true, true, true, true, true, true, true, true, true, true, true, false, false, false, false, false]) (by kernel_rfl) (by kernel_rfl) ?_
                        refine TA.all1 (i := 14) (by kernel_rfl) ?_
                        refine TB.of rfl ?_
                        refine TO.litS (f := cTii) ([(x15.1, a1.2.2.2)] : List (Int × Int)) kelemB_36_52_2_16_true kinfo_52_bind_zero_some_agg_I_0_I_0 rfl rfl (fun _ => rfl) rfl rfl (by kernel_rfl) rfl fun vq263_14_1 => ?_
                        refine TA.back (.inr (fun _ s => Sat.by [5, 5, 5, 5] 4 2 (by kernel_rfl) s)) ?_
                        refine TA.asL (L' := (OwnS 52 2 vq263_14_1 (([(x15.1, a1.2.2.2)] : List (Int × Int)).map cTii) :: OwnS 52 2 vq263_6_3 (yq263_6_1.map cTii) :: Bx b5 45 [I a1.1, I a1.2.1, I a1.2.2.1, I a1.2.2.2] :: Bx b0_ 59 [h0_1, h0_3] :: SN 61 8 nT61 h0_1 h0_2 (a0.1) :: OwnS 79 2 h0_3 (a0.2.map cTii) :: L)) (listed' := #[true, true, true, true, true, true, true, true, true, true, true, true, true, true, true, false, false, false, false]) (by kernel_rfl) (by kernel_rfl) ?_
                        refine TA.all1 (i := 15) (by kernel_rfl) ?_
                        refine TB.of rfl ?_
                        refine TO.app (k := 1) (f := cTii) kelemB_36_52_2_16_true (by decide) rfl rfl rfl (OwnS.rd (Ent.at 0 rfl)) hkq263_15_2 (fun x c hc => by simp [Value.oneCell'] at hc ⊢; first | (obtain rfl := hc; rfl) | (rcases hc with rfl | rfl <;> rfl)) rfl rfl fun vq263_15_3 => ?_
                        refine TA.back (.inr (fun _ s => Sat.by [5, 5, 5, 5] 4 2 (by kernel_rfl) s)) ?_
                        refine TA.asL (L' := (OwnS 52 2 vq263_14_1 (([(x15.1, a1.2.2.2)] : List (Int × Int)).map cTii) :: OwnS 52 2 vq263_15_3 (yq263_15_1.map cTii) :: Bx b5 45 [I a1.1, I a1.2.1, I a1.2.2.1, I a1.2.2.2] :: Bx b0_ 59 [h0_1, h0_3] :: SN 61 8 nT61 h0_1 h0_2 (a0.1) :: OwnS 79 2 h0_3 (a0.2.map cTii) :: L)) (listed' := #[true, true, true, true, true, true, true, true, true, true, true, true, true, true, true, true, false, false, false]) (by kernel_rfl) (by kernel_rfl) ?_
                        refine TA.takeW 16 rfl rfl rfl rfl (StepS.nilc rfl) (by kernel_rfl) (by kernel_rfl) (by kernel_rfl) rfl (.inr (fun _ s => Sat.by [5, 5, 5, 5] 4 2 (by kernel_rfl) s)) ?_
                        refine TA.takeW 17 rfl rfl rfl rfl (StepS.ptrf rfl kfieldB_61_4_4_true) (by kernel_rfl) (by kernel_rfl) (by kernel_rfl) rfl (.inr (fun _ s => Sat.by [5, 5, 5, 5] 4 2 (by kernel_rfl) s)) ?_
                        refine TA.all1 (i := 18) (by kernel_rfl) ?_
                        refine TB.of rfl ?_
                        refine TO.ghost (fun _ s => Sat.front 4 rfl s) ?_
                        refine TO.openN (L' := (OwnS 3 1 (cv (gr h0_2 a1.2.1.toNat) 0) (x15.2.2.2.1.map cI) :: OwnS 52 2 (cv (gr h0_2 a1.2.1.toNat) 1) (x15.2.2.2.2.1.map cTii) :: OwnS 3 1 (cv (gr h0_2 a1.2.1.toNat) 2) (x15.2.2.2.2.2.2.1.map cI) :: OwnS 3 1 (cv (gr h0_2 a1.2.1.toNat) 3) (x15.2.2.2.2.2.2.2.map cI) :: SNh 61 8 nT61 h0_1 h0_2 (a0.1) a1.2.1.toNat [I x15.1, I x15.2.1, I x15.2.2.1, (cv (gr h0_2 a1.2.1.toNat) 0), (cv (gr h0_2 a1.2.1.toNat) 1), I x15.2.2.2.2.2.1, (cv (gr h0_2 a1.2.1.toNat) 2), (cv (gr h0_2 a1.2.1.toNat) 3)] :: OwnS 52 2 vq263_14_1 (([(x15.1, a1.2.2.2)] : List (Int × Int)).map cTii) :: OwnS 52 2 vq263_15_3 (yq263_15_1.map cTii) :: Bx b5 45 [I a1.1, I a1.2.1, I a1.2.2.1, I a1.2.2.2] :: Bx b0_ 59 [h0_1, h0_3] :: OwnS 79 2 h0_3 (a0.2.map cTii) :: L)) rfl hx16 rfl ?_
                        refine TO.pure (fun _ s => Rd.one (OwnS.rd (Ent.at 6 rfl)) s) fun ocq263_18_5 => ?_
                        refine TO.ghost (fun _ s => Sat.front 4 rfl s) ?_
                        refine TO.stNh (i := a1.2.1) (off := 4) (us := [vq263_15_3]) (cs' := [I x15.1, I x15.2.1, I x15.2.2.1, (cv (gr h0_2 a1.2.1.toNat) 0), vq263_15_3, I x15.2.2.2.2.2.1, (cv (gr h0_2 a1.2.1.toNat) 2), (cv (gr h0_2 a1.2.1.toNat) 3)]) rfl rfl ksizeB_36_1_true ocq263_18_5.2 rfl rfl hx16 rfl (by intro u hu; simp only [List.mem_cons, List.not_mem_nil, or_false] at hu; rcases hu with rfl <;> first | exact ocq263_18_5.1 | rfl) rfl ?_
                        refine TO.ghost (fun _ s => Sat.front 4 rfl s) ?_
                        refine TO.ghost (fun _ s => Sat.front 4 rfl s) ?_
                        refine TO.ghost (fun _ s => Sat.front 6 rfl s) ?_
                        refine TO.ghost (fun _ s => Sat.front 4 rfl s) ?_
                        refine TO.closeN (T := nT61) (cs := [I x15.1, I x15.2.1, I x15.2.2.1, (cv (gr h0_2 a1.2.1.toNat) 0), vq263_15_3, I x15.2.2.2.2.2.1, (cv (gr h0_2 a1.2.1.toNat) 2), (cv (gr h0_2 a1.2.1.toNat) 3)]) [(cv (gr h0_2 a1.2.1.toNat) 0), vq263_15_3, (cv (gr h0_2 a1.2.1.toNat) 2), (cv (gr h0_2 a1.2.1.toNat) 3)] (x15.1, x15.2.1, x15.2.2.1, x15.2.2.2.1, yq263_15_1, x15.2.2.2.2.2.1, x15.2.2.2.2.2.2.1, x15.2.2.2.2.2.2.2) rfl rfl hx16 (Option.some.inj hyq263_18_8) fun hsq263_18_6 => ?_
                        refine TA.back (.inl (by kernel_rfl)) ?_
                        refine TA.asL (L' := (SN 61 8 nT61 h0_1 hsq263_18_6 (yq263_18_7) :: OwnS 52 2 (cv (gr h0_2 a1.2.1.toNat) 1) (x15.2.2.2.2.1.map cTii) :: OwnS 52 2 vq263_14_1 (([(x15.1, a1.2.2.2)] : List (Int × Int)).map cTii) :: Bx b5 45 [I a1.1, I a1.2.1, I a1.2.2.1, I a1.2.2.2] :: Bx b0_ 59 [h0_1, h0_3] :: OwnS 79 2 h0_3 (a0.2.map cTii) :: L)) (listed' := #[true, true, true, true, true, true, true, true, true, true, true, true, true, true, true, true, true, true, true]) (by kernel_rfl) (by kernel_rfl) ?_
                        cases hj266
                        refine TA.nil (by kernel_rfl) fun a w e s => ?_
                        exact ⟨hsq263_18_6, e.sub (lk_of_allIn trivial), s.mono fun _ s => (by exact Sat.by [5, 1, 5, 5] 4 2 (by kernel_rfl) s)⟩
                      · refine TB.of rfl ?_
                        refine TO.litS (f := cTii) ([(x15.1, a1.2.2.2)] : List (Int × Int)) kelemB_36_52_2_16_true kinfo_52_bind_zero_some_agg_I_0_I_0 rfl rfl (fun _ => rfl) rfl rfl (by kernel_rfl) rfl fun vq263_14_1 => ?_
                        refine TA.back (.inr (fun _ s => Sat.by [5, 5, 5, 5] 4 2 (by kernel_rfl) s)) ?_
                        refine TA.asL (L' := (OwnS 52 2 vq263_14_1 (([(x15.1, a1.2.2.2)] : List (Int × Int)).map cTii) :: OwnS 52 2 vq263_1_1 (([] : List (Int × Int)).map cTii) :: Bx b5 45 [I a1.1, I a1.2.1, I a1.2.2.1, I a1.2.2.2] :: Bx b0_ 59 [h0_1, h0_3] :: SN 61 8 nT61 h0_1 h0_2 (a0.1) :: OwnS 79 2 h0_3 (a0.2.map cTii) :: L)) (listed' := #[true, true, true, true, true, true, false, true, true, true, true, true, true, true, true, false, false, false, false]) (by kernel_rfl) (by kernel_rfl) ?_
                        refine TA.all1 (i := 6) (by kernel_rfl) ?_
                        refine TB.of rfl ?_
                        refine TO.app (k := 1) (f := cTii) kelemB_36_52_2_16_true (by decide) rfl rfl rfl (OwnS.rd (SN.piece (Ent.at 4 rfl) hx16 1 rfl)) hkq263_6_2 (fun x c hc => by simp [Value.oneCell'] at hc ⊢; first | (obtain rfl := hc; rfl) | (rcases hc with rfl | rfl <;> rfl)) rfl rfl fun vq263_6_3 => ?_
                        refine TA.back (.inr (fun _ s => Sat.by [5, 5, 5, 5] 4 2 (by kernel_rfl) s)) ?_
                        refine TA.asL (L' := (OwnS 52 2 vq263_14_1 (([(x15.1, a1.2.2.2)] : List (Int × Int)).map cTii) :: OwnS 52 2 vq263_6_3 (yq263_6_1.map cTii) :: Bx b5 45 [I a1.1, I a1.2.1, I a1.2.2.1, I a1.2.2.2] :: Bx b0_ 59 [h0_1, h0_3] :: SN 61 8 nT61 h0_1 h0_2 (a0.1) :: OwnS 79 2 h0_3 (a0.2.map cTii) :: L)) (listed' := #[true, true, true, true, true, true, true, true, true, true, true, true, true, true, true, false, false, false, false]) (by kernel_rfl) (by kernel_rfl) ?_
                        refine TA.all1 (i := 15) (by kernel_rfl) ?_
                        refine TB.of rfl ?_
                        refine TO.app (k := 1) (f := cTii) kelemB_36_52_2_16_true (by decide) rfl rfl rfl (OwnS.rd (Ent.at 0 rfl)) hkq263_15_2 (fun x c hc => by simp [Value.oneCell'] at hc ⊢; first | (obtain rfl := hc; rfl) | (rcases hc with rfl | rfl <;> rfl)) rfl rfl fun vq263_15_3 => ?_
                        refine TA.back (.inr (fun _ s => Sat.by [5, 5, 5, 5] 4 2 (by kernel_rfl) s)) ?_
                        refine TA.asL (L' := (OwnS 52 2 vq263_14_1 (([(x15.1, a1.2.2.2)] : List (Int × Int)).map cTii) :: OwnS 52 2 vq263_15_3 (yq263_15_1.map cTii) :: Bx b5 45 [I a1.1, I a1.2.1, I a1.2.2.1, I a1.2.2.2] :: Bx b0_ 59 [h0_1, h0_3] :: SN 61 8 nT61 h0_1 h0_2 (a0.1) :: OwnS 79 2 h0_3 (a0.2.map cTii) :: L)) (listed' := #[true, true, true, true, true, true, true, true, true, true, true, true, true, true, true, true, false, false, false]) (by kernel_rfl) (by kernel_rfl) ?_
                        refine TA.takeW 16 rfl rfl rfl rfl (StepS.nilc rfl) (by kernel_rfl) (by kernel_rfl) (by kernel_rfl) rfl (.inr (fun _ s => Sat.by [5, 5, 5, 5] 4 2 (by kernel_rfl) s)) ?_
                        refine TA.takeW 17 rfl rfl rfl rfl (StepS.ptrf rfl kfieldB_61_4_4_true) (by kernel_rfl) (by kernel_rfl) (by kernel_rfl) rfl (.inr (fun _ s => Sat.by [5, 5, 5, 5] 4 2 (by kernel_rfl) s)) ?_
                        refine TA.all1 (i := 18) (by kernel_rfl) ?_
                        refine TB.of rfl ?_
                        refine TO.ghost (fun _ s => Sat.front 4 rfl s) ?_
                        refine TO.openN (L' := (OwnS 3 1 (cv (gr h0_2 a1.2.1.toNat) 0) (x15.2.2.2.1.map cI) :: OwnS 52 2 (cv (gr h0_2 a1.2.1.toNat) 1) (x15.2.2.2.2.1.map cTii) :: OwnS 3 1 (cv (gr h0_2 a1.2.1.toNat) 2) (x15.2.2.2.2.2.2.1.map cI) :: OwnS 3 1 (cv (gr h0_2 a1.2.1.toNat) 3) (x15.2.2.2.2.2.2.2.map cI) :: SNh 61 8 nT61 h0_1 h0_2 (a0.1) a1.2.1.toNat [I x15.1, I x15.2.1, I x15.2.2.1, (cv (gr h0_2 a1.2.1.toNat) 0), (cv (gr h0_2 a1.2.1.toNat) 1), I x15.2.2.2.2.2.1, (cv (gr h0_2 a1.2.1.toNat) 2), (cv (gr h0_2 a1.2.1.toNat) 3)] :: OwnS 52 2 vq263_14_1 (([(x15.1, a1.2.2.2)] : List (Int × Int)).map cTii) :: OwnS 52 2 vq263_15_3 (yq263_15_1.map cTii) :: Bx b5 45 [I a1.1, I a1.2.1, I a1.2.2.1, I a1.2.2.2] :: Bx b0_ 59 [h0_1, h0_3] :: OwnS 79 2 h0_3 (a0.2.map cTii) :: L)) rfl hx16 rfl ?_
                        refine TO.pure (fun _ s => Rd.one (OwnS.rd (Ent.at 6 rfl)) s) fun ocq263_18_5 => ?_
                        refine TO.ghost (fun _ s => Sat.front 4 rfl s) ?_
                        refine TO.stNh (i := a1.2.1) (off := 4) (us := [vq263_15_3]) (cs' := [I x15.1, I x15.2.1, I x15.2.2.1, (cv (gr h0_2 a1.2.1.toNat) 0), vq263_15_3, I x15.2.2.2.2.2.1, (cv (gr h0_2 a1.2.1.toNat) 2), (cv (gr h0_2 a1.2.1.toNat) 3)]) rfl rfl ksizeB_36_1_true ocq263_18_5.2 rfl rfl hx16 rfl (by intro u hu; simp only [List.mem_cons, List.not_mem_nil, or_false] at hu; rcases hu with rfl <;> first | exact ocq263_18_5.1 | rfl) rfl ?_
                        refine TO.ghost (fun _ s => Sat.front 4 rfl s) ?_
                        refine TO.ghost (fun _ s => Sat.front 4 rfl s) ?_
                        refine TO.ghost (fun _ s => Sat.front 6 rfl s) ?_
                        refine TO.ghost (fun _ s => Sat.front 4 rfl s) ?_
                        refine TO.closeN (T := nT61) (cs := [I x15.1, I x15.2.1, I x15.2.2.1, (cv (gr h0_2 a1.2.1.toNat) 0), vq263_15_3, I x15.2.2.2.2.2.1, (cv (gr h0_2 a1.2.1.toNat) 2), (cv (gr h0_2 a1.2.1.toNat) 3)]) [(cv (gr h0_2 a1.2.1.toNat) 0), vq263_15_3, (cv (gr h0_2 a1.2.1.toNat) 2), (cv (gr h0_2 a1.2.1.toNat) 3)] (x15.1, x15.2.1, x15.2.2.1, x15.2.2.2.1, yq263_15_1, x15.2.2.2.2.2.1, x15.2.2.2.2.2.2.1, x15.2.2.2.2.2.2.2) rfl rfl hx16 (Option.some.inj hyq263_18_8) fun hsq263_18_6 => ?_
                        refine TA.back (.inl (by kernel_rfl)) ?_
                        refine TA.asL (L' := (SN 61 8 nT61 h0_1 hsq263_18_6 (yq263_18_7) :: OwnS 52 2 (cv (gr h0_2 a1.2.1.toNat) 1) (x15.2.2.2.2.1.map cTii) :: OwnS 52 2 vq263_14_1 (([(x15.1, a1.2.2.2)] : List (Int × Int)).map cTii) :: Bx b5 45 [I a1.1, I a1.2.1, I a1.2.2.1, I a1.2.2.2] :: Bx b0_ 59 [h0_1, h0_3] :: OwnS 79 2 h0_3 (a0.2.map cTii) :: L)) (listed' := #[true, true, true, true, true, true, true, true, true, true, true, true, true, true, true, true, true, true, true]) (by kernel_rfl) (by kernel_rfl) ?_
                        cases hj266
                        refine TA.nil (by kernel_rfl) fun a w e s => ?_
                        exact ⟨hsq263_18_6, e.sub (lk_of_allIn trivial), s.mono fun _ s => (by exact Sat.by [5, 1, 5, 5] 4 2 (by kernel_rfl) s)⟩
                    · refine TB.of rfl ?_
                      refine TO.litS (f := cTii) ([(x15.1, a1.2.2.2)] : List (Int × Int)) kelemB_36_52_2_16_true kinfo_52_bind_zero_some_agg_I_0_I_0 rfl rfl (fun _ => rfl) rfl rfl (by kernel_rfl) rfl fun vq263_14_1 => ?_
                      refine TA.back (.inr (fun _ s => Sat.by [4, 4, 4, 4] 4 1 (by kernel_rfl) s)) ?_
                      refine TA.asL (L' := (OwnS 52 2 vq263_14_1 (([(x15.1, a1.2.2.2)] : List (Int × Int)).map cTii) :: Bx b5 45 [I a1.1, I a1.2.1, I a1.2.2.1, I a1.2.2.2] :: Bx b0_ 59 [h0_1, h0_3] :: SN 61 8 nT61 h0_1 h0_2 (a0.1) :: OwnS 79 2 h0_3 (a0.2.map cTii) :: L)) (listed' := #[true, false, true, true, true, true, false, true, true, true, true, true, true, true, true, false, false, false, false]) (by kernel_rfl) (by kernel_rfl) ?_
                      refine TA.all1 (i := 1) (by kernel_rfl) ?_
                      refine TB.of rfl ?_
                      refine TO.lit0 (f := cTii) ksliceB_36_52_2_true rfl fun vq263_1_1 => ?_
                      refine TA.back (.inr (fun _ s => Sat.by [5, 5, 5, 5] 4 2 (by kernel_rfl) s)) ?_
                      refine TA.asL (L' := (OwnS 52 2 vq263_1_1 (([] : List (Int × Int)).map cTii) :: OwnS 52 2 vq263_14_1 (([(x15.1, a1.2.2.2)] : List (Int × Int)).map cTii) :: Bx b5 45 [I a1.1, I a1.2.1, I a1.2.2.1, I a1.2.2.2] :: Bx b0_ 59 [h0_1, h0_3] :: SN 61 8 nT61 h0_1 h0_2 (a0.1) :: OwnS 79 2 h0_3 (a0.2.map cTii) :: L)) (listed' := #[true, true, true, true, true, true, false, true, true, true, true, true, true, true, true, false, false, false, false]) (by kernel_rfl) (by kernel_rfl) ?_
                      refine TA.all1 (i := 6) (by kernel_rfl) ?_
                      refine TB.of rfl ?_
                      refine TO.app (k := 0) (f := cTii) kelemB_36_52_2_16_true (by decide) rfl rfl rfl (OwnS.rd (SN.piece (Ent.at 4 rfl) hx16 1 rfl)) hkq263_6_2 (fun x c hc => by simp [Value.oneCell'] at hc ⊢; first | (obtain rfl := hc; rfl) | (rcases hc with rfl | rfl <;> rfl)) rfl rfl fun vq263_6_3 => ?_
                      refine TA.back (.inr (fun _ s => Sat.by [5, 5, 5, 5] 4 2 (by kernel_rfl) s)) ?_
                      refine TA.asL (L' := (OwnS 52 2 vq263_6_3 (yq263_6_1.map cTii) :: OwnS 52 2 vq263_14_1 (([(x15.1, a1.2.2.2)] : List (Int × Int)).map cTii) :: Bx b5 45 [I a1.1, I a1.2.1, I a1.2.2.1, I a1.2.2.2] :: Bx b0_ 59 [h0_1, h0_3] :: SN 61 8 nT61 h0_1 h0_2 (a0.1) :: OwnS 79 2 h0_3 (a0.2.map cTii) :: L)) (listed' := #[true, true, true, true, true, true, true, true, true, true, true, true, true, true, true, false, false, false, false]) (by kernel_rfl) (by kernel_rfl) ?_
                      refine TA.all1 (i := 15) (by kernel_rfl) ?_
                      refine TB.of rfl ?_
                      refine TO.app (k := 0) (f := cTii) kelemB_36_52_2_16_true (by decide) rfl rfl rfl (OwnS.rd (Ent.at 1 rfl)) hkq263_15_2 (fun x c hc => by simp [Value.oneCell'] at hc ⊢; first | (obtain rfl := hc; rfl) | (rcases hc with rfl | rfl <;> rfl)) rfl rfl fun vq263_15_3 => ?_
                      refine TA.back (.inr (fun _ s => Sat.by [5, 5, 5, 5] 4 2 (by kernel_rfl) s)) ?_
                      refine TA.asL (L' := (OwnS 52 2 vq263_15_3 (yq263_15_1.map cTii) :: OwnS 52 2 vq263_14_1 (([(x15.1, a1.2.2.2)] : List (Int × Int)).map cTii) :: Bx b5 45 [I a1.1, I a1.2.1, I a1.2.2.1, I a1.2.2.2] :: Bx b0_ 59 [h0_1, h0_3] :: SN 61 8 nT61 h0_1 h0_2 (a0.1) :: OwnS 79 2 h0_3 (a0.2.map cTii) :: L)) (listed' := #[true, true, true, true, true, true, true, true, true, true, true, true, true, true, true, true, false, false, false]) (by kernel_rfl) (by kernel_rfl) ?_
                      refine TA.takeW 16 rfl rfl rfl rfl (StepS.nilc rfl) (by kernel_rfl) (by kernel_rfl) (by kernel_rfl) rfl (.inr (fun _ s => Sat.by [5, 5, 5, 5] 4 2 (by kernel_rfl) s)) ?_
                      refine TA.takeW 17 rfl rfl rfl rfl (StepS.ptrf rfl kfieldB_61_4_4_true) (by kernel_rfl) (by kernel_rfl) (by kernel_rfl) rfl (.inr (fun _ s => Sat.by [5, 5, 5, 5] 4 2 (by kernel_rfl) s)) ?_
                      refine TA.all1 (i := 18) (by kernel_rfl) ?_
                      refine TB.of rfl ?_
                      refine TO.ghost (fun _ s => Sat.front 4 rfl s) ?_
                      refine TO.openN (L' := (OwnS 3 1 (cv (gr h0_2 a1.2.1.toNat) 0) (x15.2.2.2.1.map cI) :: OwnS 52 2 (cv (gr h0_2 a1.2.1.toNat) 1) (x15.2.2.2.2.1.map cTii) :: OwnS 3 1 (cv (gr h0_2 a1.2.1.toNat) 2) (x15.2.2.2.2.2.2.1.map cI) :: OwnS 3 1 (cv (gr h0_2 a1.2.1.toNat) 3) (x15.2.2.2.2.2.2.2.map cI) :: SNh 61 8 nT61 h0_1 h0_2 (a0.1) a1.2.1.toNat [I x15.1, I x15.2.1, I x15.2.2.1, (cv (gr h0_2 a1.2.1.toNat) 0), (cv (gr h0_2 a1.2.1.toNat) 1), I x15.2.2.2.2.2.1, (cv (gr h0_2 a1.2.1.toNat) 2), (cv (gr h0_2 a1.2.1.toNat) 3)] :: OwnS 52 2 vq263_15_3 (yq263_15_1.map cTii) :: OwnS 52 2 vq263_14_1 (([(x15.1, a1.2.2.2)] : List (Int × Int)).map cTii) :: Bx b5 45 [I a1.1, I a1.2.1, I a1.2.2.1, I a1.2.2.2] :: Bx b0_ 59 [h0_1, h0_3] :: OwnS 79 2 h0_3 (a0.2.map cTii) :: L)) rfl hx16 rfl ?_
                      refine TO.pure (fun _ s => Rd.one (OwnS.rd (Ent.at 5 rfl)) s) fun ocq263_18_5 => ?_
                      refine TO.ghost (fun _ s => Sat.front 4 rfl s) ?_
                      refine TO.stNh (i := a1.2.1) (off := 4) (us := [vq263_15_3]) (cs' := [I x15.1, I x15.2.1, I x15.2.2.1, (cv (gr h0_2 a1.2.1.toNat) 0), vq263_15_3, I x15.2.2.2.2.2.1, (cv (gr h0_2 a1.2.1.toNat) 2), (cv (gr h0_2 a1.2.1.toNat) 3)]) rfl rfl ksizeB_36_1_true ocq263_18_5.2 rfl rfl hx16 rfl (by intro u hu; simp only [List.mem_cons, List.not_mem_nil, or_false] at hu; rcases hu with rfl <;> first | exact ocq263_18_5.1 | rfl) rfl ?_
                      refine TO.ghost (fun _ s => Sat.front 4 rfl s) ?_
                      refine TO.ghost (fun _ s => Sat.front 4 rfl s) ?_
                      refine TO.ghost (fun _ s => Sat.front 5 rfl s) ?_
                      refine TO.ghost (fun _ s => Sat.front 4 rfl s) ?_
                      refine TO.closeN (T := nT61) (cs := [I x15.1, I x15.2.1, I x15.2.2.1, (cv (gr h0_2 a1.2.1.toNat) 0), vq263_15_3, I x15.2.2.2.2.2.1, (cv (gr h0_2 a1.2.1.toNat) 2), (cv (gr h0_2 a1.2.1.toNat) 3)]) [(cv (gr h0_2 a1.2.1.toNat) 0), vq263_15_3, (cv (gr h0_2 a1.2.1.toNat) 2), (cv (gr h0_2 a1.2.1.toNat) 3)] (x15.1, x15.2.1, x15.2.2.1, x15.2.2.2.1, yq263_15_1, x15.2.2.2.2.2.1, x15.2.2.2.2.2.2.1, x15.2.2.2.2.2.2.2) rfl rfl hx16 (Option.some.inj hyq263_18_8) fun hsq263_18_6 => ?_
                      refine TA.back (.inl (by kernel_rfl)) ?_
                      refine TA.asL (L' := (SN 61 8 nT61 h0_1 hsq263_18_6 (yq263_18_7) :: OwnS 52 2 (cv (gr h0_2 a1.2.1.toNat) 1) (x15.2.2.2.2.1.map cTii) :: OwnS 52 2 vq263_14_1 (([(x15.1, a1.2.2.2)] : List (Int × Int)).map cTii) :: Bx b5 45 [I a1.1, I a1.2.1, I a1.2.2.1, I a1.2.2.2] :: Bx b0_ 59 [h0_1, h0_3] :: OwnS 79 2 h0_3 (a0.2.map cTii) :: L)) (listed' := #[true, true, true, true, true, true, true, true, true, true, true, true, true, true, true, true, true, true, true]) (by kernel_rfl) (by kernel_rfl) ?_
                      cases hj266
                      refine TA.nil (by kernel_rfl) fun a w e s => ?_
                      exact ⟨hsq263_18_6, e.sub (lk_of_allIn trivial), s.mono fun _ s => (by exact Sat.by [5, 1, 5, 5] 4 2 (by kernel_rfl) s)⟩
                  · intro a w ⟨hs265, he, hs⟩
                    refine TC.use ?_ he hs
                    refine TC.k ?_
                    refine TC.region ?_
                    refine TO.s rfl rfl rfl (StepS.assign rfl) ?_
                    refine TO.code ?_
                    cases hm
                    refine TC.ret fun a w e s => ?_
                    refine FRet.mk1 (P := Try.prog) (fn := Try.f16) (t := 6) e rfl rfl ?_
                    refine ⟨_, _, rfl, ⟨(hs265), (h0_3), rfl, rfl⟩, ?_⟩
                    refine s.mono fun _ s => ?_
                    replace s := Sat.front 3 rfl s
                    replace s := Sat.front 3 rfl s
                    replace s := Sat.front 3 rfl s
                    replace s := Sat.erase 3 s
                    exact s
            · replace hm := cond_f hc260 hm
              refine TC.k ?_
              refine TC.region ?_
              refine TO.s rfl rfl rfl (StepS.cmp rfl rfl rfl) ?_
              refine TO.s rfl rfl rfl (StepS.assign rfl) ?_
              refine TO.code ?_
              refine TC.cond rfl (fun hc267 => ?_) (fun hc267 => ?_)
              · replace hm := cond_t hc267 hm
                refine TC.k ?_
                refine TC.k ?_
                refine TC.region ?_
                refine TO.s rfl rfl rfl (StepS.move rfl) ?_
                refine TO.s rfl rfl rfl (StepS.nilc rfl) ?_
                refine TO.s rfl rfl rfl (StepS.ptrf rfl kfieldB_61_1_1_true) ?_
                refine TO.s rfl rfl rfl (StepS.ldN (j := 1) rfl (Ent.at 2 rfl) kscalB_3_true hx16 rfl rfl) ?_
                refine TO.s rfl rfl rfl (StepS.cmp rfl rfl rfl) ?_
                refine TO.code ?_
                refine TC.cond rfl (fun hc268 => ?_) (fun hc268 => ?_)
                · replace hm := cond_t hc268 hm
                  refine TC.k ?_
                  refine TC.region ?_
                  refine TO.s rfl rfl rfl (StepS.assign rfl) ?_
                  refine TO.code ?_
                  cases hm
                  refine TC.ret fun a w e s => ?_
                  refine FRet.mk1 (P := Try.prog) (fn := Try.f16) (t := 6) e rfl rfl ?_
                  refine ⟨_, _, rfl, ⟨(h0_2), (h0_3), rfl, rfl⟩, ?_⟩
                  refine s.mono fun _ s => ?_
                  replace s := Sat.front 3 rfl s
                  replace s := Sat.front 3 rfl s
                  replace s := Sat.front 3 rfl s
                  replace s := Sat.erase 3 s
                  exact s
                · replace hm := cond_f hc268 hm
                  refine TC.skipk ?_
                  refine TC.k ?_
                  refine TC.region ?_
                  refine TO.s rfl rfl rfl (StepS.move rfl) ?_
                  refine TO.s rfl rfl rfl (StepS.nilc rfl) ?_
                  refine TO.s rfl rfl rfl (StepS.ptrf rfl kfieldB_61_5_5_true) ?_
                  refine TO.s rfl rfl rfl (StepS.ldN (j := 5) rfl (Ent.at 2 rfl) kscalB_3_true hx16 rfl rfl) ?_
                  refine TO.s rfl rfl rfl (StepS.assign rfl) ?_
                  refine TO.code ?_
                  refine TC.k ?_
                  refine TC.k ?_
                  refine TC.region ?_
                  refine TO.s rfl rfl rfl (StepS.move rfl) ?_
                  refine TO.s rfl rfl rfl (StepS.nilc rfl) ?_
                  refine TO.s rfl rfl rfl (StepS.ptrf rfl kfieldB_61_5_5_true) ?_
                  refine TO.s rfl rfl rfl (StepS.ldN (j := 5) rfl (Ent.at 2 rfl) kscalB_3_true hx16 rfl rfl) ?_
                  refine TO.s rfl rfl rfl (StepS.ari rfl rfl rfl) ?_
                  refine TO.s rfl rfl rfl (StepS.assign rfl) ?_
                  refine TO.code ?_
                  obtain ⟨o274, hw275, hm⟩ := bind_some hm
                  refine TC.loop hw275 (fun (x269, x270) => fun a w => Mid 478 B [(0, .pointer (some ⟨b0_, 0, none⟩)), (4, .pointer (some ⟨b5, 0, none⟩)), (8, ptr h0_1 (a1.2.1.toNat * 8)), (12, I x269), (13, I x270)] (Bx b5 45 [I a1.1, I a1.2.1, I a1.2.2.1, I a1.2.2.2] :: Bx b0_ 59 [h0_1, h0_3] :: SN 61 8 nT61 h0_1 h0_2 (a0.1) :: OwnS 79 2 h0_3 (a0.2.map cTii) :: L) a w) (fun x273 => fun a w => Mid 478 B [(8, ptr h0_1 (a1.2.1.toNat * 8)), (12, I x273)] (Bx b5 45 [I a1.1, I a1.2.1, I a1.2.2.1, I a1.2.2.2] :: Bx b0_ 59 [h0_1, h0_3] :: SN 61 8 nT61 h0_1 h0_2 (a0.1) :: OwnS 79 2 h0_3 (a0.2.map cTii) :: L) a w) (fun (_ : Unit) _ _ => False) ?_ ?_ ?_ ?_
                  · rintro ⟨x269, x270⟩ o274r hb276 a w ⟨he, hs⟩
                    dsimp only [F16_L0] at hb276
                    refine TC.use ?_ he hs
                    refine TC.k ?_
                    refine TC.k ?_
                    refine TC.region ?_
                    refine TO.s rfl rfl rfl (StepS.move rfl) ?_
                    refine TO.s rfl rfl rfl (StepS.move rfl) ?_
                    refine TO.s rfl rfl rfl (StepS.nilc rfl) ?_
                    refine TO.s rfl rfl rfl (StepS.ptrf rfl kfieldB_61_4_4_true) ?_
                    obtain ⟨x277, hx278, hb276⟩ := bind_some hb276
                    refine TO.s rfl rfl rfl (StepS.ldN (j := 4) rfl (Ent.at 2 rfl) kscalB_36_true hx278 rfl rfl) ?_
                    refine TO.s rfl rfl rfl (StepS.lenm rfl (OwnS.rd (SN.piece (Ent.at 2 rfl) hx278 1 rfl)) ksliceB_36_52_2_true rfl) ?_
                    refine TO.s rfl rfl rfl (StepS.cmp rfl rfl rfl) ?_
                    refine TO.code ?_
                    refine TC.cond rfl (fun hc279 => ?_) (fun hc279 => ?_)
                    · replace hb276 := cond_t hc279 hb276
                      refine TC.skipk ?_
                      refine TC.k ?_
                      obtain ⟨x280, hj281, hb276⟩ := bind_some hb276
                      first | refine TC.cutM (fun a w => Mid 478 B [(0, .pointer (some ⟨b0_, 0, none⟩)), (4, .pointer (some ⟨b5, 0, none⟩)), (8, ptr h0_1 (a1.2.1.toNat * 8)), (12, I x280), (13, I x270)] (Bx b5 45 [I a1.1, I a1.2.1, I a1.2.2.1, I a1.2.2.2] :: Bx b0_ 59 [h0_1, h0_3] :: SN 61 8 nT61 h0_1 h0_2 (a0.1) :: OwnS 79 2 h0_3 (a0.2.map cTii) :: L) a w) ?_ ?_ | refine TC.cutX (fun a w => Mid 478 B [(0, .pointer (some ⟨b0_, 0, none⟩)), (4, .pointer (some ⟨b5, 0, none⟩)), (8, ptr h0_1 (a1.2.1.toNat * 8)), (12, I x280), (13, I x270)] (Bx b5 45 [I a1.1, I a1.2.1, I a1.2.2.1, I a1.2.2.2] :: Bx b0_ 59 [h0_1, h0_3] :: SN 61 8 nT61 h0_1 h0_2 (a0.1) :: OwnS 79 2 h0_3 (a0.2.map cTii) :: L) a w) ?_ ?_
                      · refine TC.block ?_
                        refine TC.k ?_
                        refine TC.region ?_
                        refine TO.s rfl rfl rfl (StepS.assign rfl) ?_
                        refine TO.code ?_
                        refine TC.k ?_
                        refine TC.k ?_
                        refine TC.region ?_
                        refine TO.s rfl rfl rfl (StepS.assign rfl) ?_
                        refine TO.code ?_
                        obtain ⟨o287, hw288, hj281⟩ := bind_some hj281
                        refine TC.loop hw288 (fun (x282, x283) => fun a w => Mid 478 B [(0, .pointer (some ⟨b0_, 0, none⟩)), (4, .pointer (some ⟨b5, 0, none⟩)), (8, ptr h0_1 (a1.2.1.toNat * 8)), (12, I x269), (13, I x270), (14, I x282), (15, I x283)] (Bx b5 45 [I a1.1, I a1.2.1, I a1.2.2.1, I a1.2.2.2] :: Bx b0_ 59 [h0_1, h0_3] :: SN 61 8 nT61 h0_1 h0_2 (a0.1) :: OwnS 79 2 h0_3 (a0.2.map cTii) :: L) a w) (fun x286 => fun a w => Mid 478 B [(0, .pointer (some ⟨b0_, 0, none⟩)), (4, .pointer (some ⟨b5, 0, none⟩)), (8, ptr h0_1 (a1.2.1.toNat * 8)), (12, I x269), (13, I x270), (14, I x286)] (Bx b5 45 [I a1.1, I a1.2.1, I a1.2.2.1, I a1.2.2.2] :: Bx b0_ 59 [h0_1, h0_3] :: SN 61 8 nT61 h0_1 h0_2 (a0.1) :: OwnS 79 2 h0_3 (a0.2.map cTii) :: L) a w) (fun (_ : Unit) _ _ => False) ?_ ?_ ?_ ?_
                        · rintro ⟨x282, x283⟩ o287r hb289 a w ⟨he, hs⟩
                          dsimp only [F16_L1] at hb289
                          refine TC.use ?_ he hs
                          refine TC.k ?_
                          refine TC.k ?_
                          refine TC.region ?_
                          refine TO.s rfl rfl rfl (StepS.move rfl) ?_
                          refine TO.s rfl rfl rfl (StepS.move rfl) ?_
                          refine TO.s rfl rfl rfl (StepS.nilc rfl) ?_
                          refine TO.s rfl rfl rfl (StepS.fld rfl kfieldB_59_0_0_true) ?_
                          refine TO.s rfl rfl rfl (StepS.ldB rfl (Ent.at 1 rfl) kscalB_56_true rfl) ?_
                          refine TO.s rfl rfl rfl (StepS.lenN rfl (Ent.at 2 rfl) ksliceB_56_61_8_true rfl) ?_
                          refine TO.s rfl rfl rfl (StepS.cmp rfl rfl rfl) ?_
                          refine TO.code ?_
                          refine TC.cond rfl (fun hc290 => ?_) (fun hc290 => ?_)
                          · replace hb289 := cond_t hc290 hb289
                            refine TC.skipk ?_
                            refine TC.k ?_
                            obtain ⟨x291, hj292, hb289⟩ := bind_some hb289
                            first | refine TC.cutM (fun a w => Mid 478 B [(0, .pointer (some ⟨b0_, 0, none⟩)), (4, .pointer (some ⟨b5, 0, none⟩)), (8, ptr h0_1 (a1.2.1.toNat * 8)), (12, I x269), (13, I x270), (14, I x291), (15, I x283)] (Bx b5 45 [I a1.1, I a1.2.1, I a1.2.2.1, I a1.2.2.2] :: Bx b0_ 59 [h0_1, h0_3] :: SN 61 8 nT61 h0_1 h0_2 (a0.1) :: OwnS 79 2 h0_3 (a0.2.map cTii) :: L) a w) ?_ ?_ | refine TC.cutX (fun a w => Mid 478 B [(0, .pointer (some ⟨b0_, 0, none⟩)), (4, .pointer (some ⟨b5, 0, none⟩)), (8, ptr h0_1 (a1.2.1.toNat * 8)), (12, I x269), (13, I x270), (14, I x291), (15, I x283)] (Bx b5 45 [I a1.1, I a1.2.1, I a1.2.2.1, I a1.2.2.2] :: Bx b0_ 59 [h0_1, h0_3] :: SN 61 8 nT61 h0_1 h0_2 (a0.1) :: OwnS 79 2 h0_3 (a0.2.map cTii) :: L) a w) ?_ ?_
                            · refine TC.block ?_
                              refine TC.k ?_
                              refine TC.region ?_
                              refine TO.s rfl rfl rfl (StepS.move rfl) ?_
                              refine TO.s rfl rfl rfl (StepS.fld rfl kfieldB_45_1_1_true) ?_
                              refine TO.s rfl rfl rfl (StepS.ldB rfl (Ent.at 0 rfl) kscalB_3_true rfl) ?_
                              refine TO.s rfl rfl rfl (StepS.cmp rfl rfl rfl) ?_
                              refine TO.s rfl rfl rfl (StepS.move rfl) ?_
                              obtain ⟨b294, hj295, hj292⟩ := bind_some hj292
                              refine TO.mid1 10 429 (.bool b294) ?_ ?_
                              · refine bcase ((x283 != a1.2.1)) (fun hb293 => ?_) (fun hb293 => ?_)
                                · replace hj295 := cond_t hb293 hj295
                                  refine TO.sw rfl rfl rfl hb293 rfl rfl (StepS.move rfl) ?_
                                  refine TO.sw rfl rfl rfl hb293 rfl rfl (StepS.nilc rfl) ?_
                                  refine TO.sw rfl rfl rfl hb293 rfl rfl (StepS.ptrf rfl kfieldB_61_6_6_true) ?_
                                  obtain ⟨x296, hx297, hj295⟩ := bind_some hj295
                                  refine TO.sw rfl rfl rfl hb293 rfl rfl (StepS.ldN (j := 6) rfl (Ent.at 2 rfl) kscalB_24_true hx297 rfl rfl) ?_
                                  refine TO.sw rfl rfl rfl hb293 rfl rfl (StepS.move rfl) ?_
                                  obtain ⟨x298, hx299, hj295⟩ := bind_some hj295
                                  refine TO.sw rfl rfl rfl hb293 rfl rfl (StepS.idx rfl rfl (OwnS.rd (SN.piece (Ent.at 2 rfl) hx297 2 rfl)) ksliceB_24_3_1_true (idx_spec hx299).1 (idxm_lt hx299)) ?_
                                  refine TO.sw rfl rfl rfl hb293 rfl rfl (StepS.ld0 rfl (OwnS.rd (SN.piece (Ent.at 2 rfl) hx297 2 rfl)) kscalB_3_true rfl (idxm hx299) rfl) ?_
                                  refine TO.sw rfl rfl rfl hb293 rfl rfl (StepS.move rfl) ?_
                                  refine TO.sw rfl rfl rfl hb293 rfl rfl (StepS.cmp rfl rfl rfl) ?_
                                  cases hj295
                                  refine TO.s rfl rfl rfl (StepS.pickT rfl hb293 rfl) ?_
                                  exact TO.up1 10 0 rfl rfl rfl rfl
                                · replace hj295 := cond_f hb293 hj295
                                  cases hj295
                                  refine TO.skip rfl rfl rfl (skipF hb293) rfl rfl ?_
                                  refine TO.skip rfl rfl rfl (skipF hb293) rfl rfl ?_
                                  refine TO.skip rfl rfl rfl (skipF hb293) rfl rfl ?_
                                  refine TO.skip rfl rfl rfl (skipF hb293) rfl rfl ?_
                                  refine TO.skip rfl rfl rfl (skipF hb293) rfl rfl ?_
                                  refine TO.skip rfl rfl rfl (skipF hb293) rfl rfl ?_
                                  refine TO.skip rfl rfl rfl (skipF hb293) rfl rfl ?_
                                  refine TO.skip rfl rfl rfl (skipF hb293) rfl rfl ?_
                                  refine TO.skip rfl rfl rfl (skipF hb293) rfl rfl ?_
                                  refine TO.s rfl rfl rfl (StepS.pickF rfl hb293 rfl) ?_
                                  exact TO.up1 10 0 rfl rfl rfl rfl
                              refine TO.code ?_
                              refine TC.cond rfl (fun hc300 => ?_) (fun hc300 => ?_)
                              · replace hj292 := cond_t hc300 hj292
                                refine TC.region ?_
                                refine TO.s rfl rfl rfl (StepS.move rfl) ?_
                                refine TO.s rfl rfl rfl (StepS.ari rfl rfl rfl) ?_
                                refine TO.s rfl rfl rfl (StepS.assign rfl) ?_
                                cases hj292
                                refine TO.nil fun a w e s => ?_
                                exact ⟨e.sub (lk_of_allIn ⟨rfl, rfl, rfl, rfl, rfl, rfl, rfl, trivial⟩), s⟩
                              · replace hj292 := cond_f hc300 hj292
                                cases hj292
                                refine TC.skip fun a w e s => ?_
                                exact ⟨e.sub (lk_of_allIn ⟨rfl, rfl, rfl, rfl, rfl, rfl, rfl, trivial⟩), s⟩
                            · intro a w ⟨he, hs⟩
                              refine TC.use ?_ he hs
                              refine TC.region ?_
                              refine TO.s rfl rfl rfl (StepS.move rfl) ?_
                              refine TO.s rfl rfl rfl (StepS.ari rfl rfl rfl) ?_
                              refine TO.s rfl rfl rfl (StepS.assign rfl) ?_
                              cases hb289
                              refine TO.nil fun a w e s => ?_
                              exact ⟨e.sub (lk_of_allIn ⟨rfl, rfl, rfl, rfl, rfl, rfl, rfl, trivial⟩), s⟩
                          · replace hb289 := cond_f hc290 hb289
                            cases hb289
                            refine TC.exit rfl fun a w e s => ?_
                            exact ⟨e.sub (lk_of_allIn ⟨rfl, rfl, rfl, rfl, rfl, rfl, trivial⟩), s⟩
                        · exact fun a w e s => ⟨e.sub (lk_of_allIn ⟨rfl, rfl, rfl, rfl, rfl, rfl, rfl, trivial⟩), s⟩
                        · rintro x286 rfl a w ⟨he, hs⟩
                          dsimp only [Ctl.on] at hj281
                          refine TC.use ?_ he hs
                          refine TC.k ?_
                          refine TC.region_still kfollows_mixedOrders_true (by kernel_rfl) ?_
                          refine TS.s rfl rfl rfl (StepS.move rfl) ?_
                          refine TS.s rfl rfl rfl (StepS.ari rfl rfl rfl) ?_
                          refine TS.s rfl rfl rfl (StepS.move rfl) ?_
                          refine TS.s rfl rfl rfl (StepS.nilc rfl) ?_
                          refine TS.s rfl rfl rfl (StepS.fld rfl kfieldB_59_0_0_true) ?_
                          refine TS.s rfl rfl rfl (StepS.ldB rfl (Ent.at 1 rfl) kscalB_56_true rfl) ?_
                          refine TS.s rfl rfl rfl (StepS.lenN rfl (Ent.at 2 rfl) ksliceB_56_61_8_true rfl) ?_
                          refine TS.s rfl rfl rfl (StepS.cmp rfl rfl rfl) ?_
                          refine TS.s rfl rfl rfl (StepS.move rfl) ?_
                          obtain ⟨b302, hj303, hj281⟩ := bind_some hj281
                          refine TS.mid1 15 455 (.bool b302) ?_ ?_
                          · refine bcase ((decide ((w64 (x286 * 2)) > (a0.1.length : Int)))) (fun hb301 => ?_) (fun hb301 => ?_)
                            · replace hj303 := cond_t hb301 hj303
                              refine TS.sw rfl rfl rfl hb301 rfl rfl (StepS.move rfl) ?_
                              refine TS.sw rfl rfl rfl hb301 rfl rfl (StepS.nilc rfl) ?_
                              refine TS.sw rfl rfl rfl hb301 rfl rfl (StepS.ptrf rfl kfieldB_61_4_4_true) ?_
                              obtain ⟨x304, hx305, hj303⟩ := bind_some hj303
                              refine TS.sw rfl rfl rfl hb301 rfl rfl (StepS.ldN (j := 4) rfl (Ent.at 2 rfl) kscalB_36_true hx305 rfl rfl) ?_
                              refine TS.sw rfl rfl rfl hb301 rfl rfl (StepS.move rfl) ?_
                              refine TS.sw rfl rfl rfl hb301 rfl rfl (StepS.ari rfl rfl rfl) ?_
                              obtain ⟨x306, hx307, hj303⟩ := bind_some hj303
                              refine TS.sw rfl rfl rfl hb301 rfl rfl (StepS.idx rfl rfl (OwnS.rd (SN.piece (Ent.at 2 rfl) hx305 1 rfl)) ksliceB_36_52_2_true (idx_spec hx307).1 (idxm_lt hx307)) ?_
                              refine TS.sw rfl rfl rfl hb301 rfl rfl (StepS.ptrf rfl kfieldB_52_0_0_true) ?_
                              refine TS.sw rfl rfl rfl hb301 rfl rfl (StepS.ld1 rfl (OwnS.rd (SN.piece (Ent.at 2 rfl) hx305 1 rfl)) kscalB_3_true rfl (idxm hx307) rfl) ?_
                              refine TS.sw rfl rfl rfl hb301 rfl rfl (StepS.move rfl) ?_
                              refine TS.sw rfl rfl rfl hb301 rfl rfl (StepS.nilc rfl) ?_
                              refine TS.sw rfl rfl rfl hb301 rfl rfl (StepS.ptrf rfl kfieldB_61_0_0_true) ?_
                              obtain ⟨x308, hx309, hj303⟩ := bind_some hj303
                              refine TS.sw rfl rfl rfl hb301 rfl rfl (StepS.ldN (j := 0) rfl (Ent.at 2 rfl) kscalB_3_true hx309 rfl rfl) ?_
                              refine TS.sw rfl rfl rfl hb301 rfl rfl (StepS.cmp rfl rfl rfl) ?_
                              cases hj303
                              refine TS.s rfl rfl rfl (StepS.pickT rfl hb301 rfl) ?_
                              exact TS.up1 15 0 rfl rfl rfl rfl
                            · replace hj303 := cond_f hb301 hj303
                              cases hj303
                              refine TS.skip rfl rfl rfl (skipF hb301) rfl rfl ?_
                              refine TS.skip rfl rfl rfl (skipF hb301) rfl rfl ?_
                              refine TS.skip rfl rfl rfl (skipF hb301) rfl rfl ?_
                              refine TS.skip rfl rfl rfl (skipF hb301) rfl rfl ?_
                              refine TS.skip rfl rfl rfl (skipF hb301) rfl rfl ?_
                              refine TS.skip rfl rfl rfl (skipF hb301) rfl rfl ?_
                              refine TS.skip rfl rfl rfl (skipF hb301) rfl rfl ?_
                              refine TS.skip rfl rfl rfl (skipF hb301) rfl rfl ?_
                              refine TS.skip rfl rfl rfl (skipF hb301) rfl rfl ?_
                              refine TS.skip rfl rfl rfl (skipF hb301) rfl rfl ?_
                              refine TS.skip rfl rfl rfl (skipF hb301) rfl rfl ?_
                              refine TS.skip rfl rfl rfl (skipF hb301) rfl rfl ?_
                              refine TS.skip rfl rfl rfl (skipF hb301) rfl rfl ?_
                              refine TS.skip rfl rfl rfl (skipF hb301) rfl rfl ?_
                              refine TS.s rfl rfl rfl (StepS.pickF rfl hb301 rfl) ?_
                              exact TS.up1 15 0 rfl rfl rfl rfl
                          refine TS.code ?_
                          refine TC.cond rfl (fun hc310 => ?_) (fun hc310 => ?_)
                          · replace hj281 := cond_t hc310 hj281
                            refine TC.region ?_
                            refine TO.s rfl rfl rfl (StepS.move rfl) ?_
                            refine TO.s rfl rfl rfl (StepS.assign rfl) ?_
                            cases hj281
                            refine TO.nil fun a w e s => ?_
                            exact ⟨e.sub (lk_of_allIn ⟨rfl, rfl, rfl, rfl, rfl, trivial⟩), s⟩
                          · replace hj281 := cond_f hc310 hj281
                            cases hj281
                            refine TC.skip fun a w e s => ?_
                            exact ⟨e.sub (lk_of_allIn ⟨rfl, rfl, rfl, rfl, rfl, trivial⟩), s⟩
                        · rintro r rfl
                          exact fun a w h => h.elim
                      · intro a w ⟨he, hs⟩
                        refine TC.use ?_ he hs
                        refine TC.region ?_
                        refine TO.s rfl rfl rfl (StepS.move rfl) ?_
                        refine TO.s rfl rfl rfl (StepS.ari rfl rfl rfl) ?_
                        refine TO.s rfl rfl rfl (StepS.assign rfl) ?_
                        cases hb276
                        refine TO.nil fun a w e s => ?_
                        exact ⟨e.sub (lk_of_allIn ⟨rfl, rfl, rfl, rfl, rfl, trivial⟩), s⟩
                    · replace hb276 := cond_f hc279 hb276
                      cases hb276
                      refine TC.exit rfl fun a w e s => ?_
                      exact ⟨e.sub (lk_of_allIn ⟨rfl, rfl, trivial⟩), s⟩
                  · exact fun a w e s => ⟨e.sub (lk_of_allIn ⟨rfl, rfl, rfl, rfl, rfl, trivial⟩), s⟩
                  · rintro x273 rfl a w ⟨he, hs⟩
                    dsimp only [Ctl.on] at hm
                    refine TC.use ?_ he hs
                    refine TC.k ?_
                    refine TC.k ?_
                    refine TC.region ?_
                    refine TO.s rfl rfl rfl (StepS.move rfl) ?_
                    refine TO.s rfl rfl rfl (StepS.move rfl) ?_
                    refine TO.s rfl rfl rfl (StepS.nilc rfl) ?_
                    refine TO.s rfl rfl rfl (StepS.ptrf rfl kfieldB_61_5_5_true) ?_
                    obtain ⟨x311, hx312, hm⟩ := bind_some hm
                    refine TO.s rfl rfl rfl (StepS.ldN (j := 5) rfl (Ent.at 2 rfl) kscalB_3_true hx312 rfl rfl) ?_
                    refine TO.s rfl rfl rfl (StepS.cmp rfl rfl rfl) ?_
                    refine TO.code ?_
                    refine TC.cond rfl (fun hc313 => ?_) (fun hc313 => ?_)
                    · replace hm := cond_t hc313 hm
                      refine TC.k ?_
                      refine TC.region ?_
                      refine TO.s rfl rfl rfl (StepS.assign rfl) ?_
                      refine TO.code ?_
                      cases hm
                      refine TC.ret fun a w e s => ?_
                      refine FRet.mk1 (P := Try.prog) (fn := Try.f16) (t := 6) e rfl rfl ?_
                      refine ⟨_, _, rfl, ⟨(h0_2), (h0_3), rfl, rfl⟩, ?_⟩
                      refine s.mono fun _ s => ?_
                      replace s := Sat.front 3 rfl s
                      replace s := Sat.front 3 rfl s
                      replace s := Sat.front 3 rfl s
                      replace s := Sat.erase 3 s
                      exact s
                    · replace hm := cond_f hc313 hm
                      refine TC.skipk ?_
                      refine TC.region ?_
                      refine TO.s rfl rfl rfl (StepS.move rfl) ?_
                      refine TO.s rfl rfl rfl (StepS.move rfl) ?_
                      refine TO.s rfl rfl rfl (StepS.nilc rfl) ?_
                      refine TO.s rfl rfl rfl (StepS.ptrf rfl kfieldB_61_5_5_true) ?_
                      obtain ⟨x314, hx315, hm⟩ := bind_some hm
                      refine TO.ghost (fun _ s => Sat.front 2 rfl s) ?_
                      refine TO.openN (L' := (OwnS 3 1 (cv (gr h0_2 a1.2.1.toNat) 0) (x314.2.2.2.1.map cI) :: OwnS 52 2 (cv (gr h0_2 a1.2.1.toNat) 1) (x314.2.2.2.2.1.map cTii) :: OwnS 3 1 (cv (gr h0_2 a1.2.1.toNat) 2) (x314.2.2.2.2.2.2.1.map cI) :: OwnS 3 1 (cv (gr h0_2 a1.2.1.toNat) 3) (x314.2.2.2.2.2.2.2.map cI) :: SNh 61 8 nT61 h0_1 h0_2 (a0.1) a1.2.1.toNat [I x314.1, I x314.2.1, I x314.2.2.1, (cv (gr h0_2 a1.2.1.toNat) 0), (cv (gr h0_2 a1.2.1.toNat) 1), I x314.2.2.2.2.2.1, (cv (gr h0_2 a1.2.1.toNat) 2), (cv (gr h0_2 a1.2.1.toNat) 3)] :: Bx b5 45 [I a1.1, I a1.2.1, I a1.2.2.1, I a1.2.2.2] :: Bx b0_ 59 [h0_1, h0_3] :: OwnS 79 2 h0_3 (a0.2.map cTii) :: L)) rfl hx315 rfl ?_
                      refine TO.ghost (fun _ s => Sat.front 4 rfl s) ?_
                      refine TO.stNh (i := a1.2.1) (off := 5) (us := [I x273]) (cs' := [I x314.1, I x314.2.1, I x314.2.2.1, (cv (gr h0_2 a1.2.1.toNat) 0), (cv (gr h0_2 a1.2.1.toNat) 1), I x273, (cv (gr h0_2 a1.2.1.toNat) 2), (cv (gr h0_2 a1.2.1.toNat) 3)]) rfl rfl ksizeB_3_1_true rfl rfl rfl hx315 rfl (by simp [Value.oneCell']) rfl ?_
                      refine TO.ghost (fun _ s => Sat.front 4 rfl s) ?_
                      refine TO.ghost (fun _ s => Sat.front 4 rfl s) ?_
                      refine TO.ghost (fun _ s => Sat.front 4 rfl s) ?_
                      refine TO.ghost (fun _ s => Sat.front 4 rfl s) ?_
                      obtain ⟨y321, hy322, hm⟩ := bind_some hm
                      refine TO.closeN (T := nT61) (cs := [I x314.1, I x314.2.1, I x314.2.2.1, (cv (gr h0_2 a1.2.1.toNat) 0), (cv (gr h0_2 a1.2.1.toNat) 1), I x273, (cv (gr h0_2 a1.2.1.toNat) 2), (cv (gr h0_2 a1.2.1.toNat) 3)]) [(cv (gr h0_2 a1.2.1.toNat) 0), (cv (gr h0_2 a1.2.1.toNat) 1), (cv (gr h0_2 a1.2.1.toNat) 2), (cv (gr h0_2 a1.2.1.toNat) 3)] (x314.1, x314.2.1, x314.2.2.1, x314.2.2.2.1, x314.2.2.2.2.1, x273, x314.2.2.2.2.2.2.1, x314.2.2.2.2.2.2.2) rfl rfl hx315 (Option.some.inj hy322) fun hs320 => ?_
                      refine TO.code ?_
                      refine TC.k ?_
                      refine TC.region ?_
                      refine TO.s rfl rfl rfl (StepS.assign rfl) ?_
                      refine TO.code ?_
                      cases hm
                      refine TC.ret fun a w e s => ?_
                      refine FRet.mk1 (P := Try.prog) (fn := Try.f16) (t := 6) e rfl rfl ?_
                      refine ⟨_, _, rfl, ⟨(hs320), (h0_3), rfl, rfl⟩, ?_⟩
                      refine s.mono fun _ s => ?_
                      replace s := Sat.front 3 rfl s
                      replace s := Sat.front 1 rfl s
                      replace s := Sat.front 3 rfl s
                      replace s := Sat.erase 3 s
                      exact s
                  · rintro r rfl
                    exact fun a w h => h.elim
              · replace hm := cond_f hc267 hm
                refine TC.k ?_
                refine TC.region ?_
                refine TO.s rfl rfl rfl (StepS.cmp rfl rfl rfl) ?_
                refine TO.s rfl rfl rfl (StepS.assign rfl) ?_
                refine TO.code ?_
                obtain ⟨y323, hj325, hm⟩ := bind_some hm
                first | refine TC.cutM (fun a w => ∃ hs324 : List (List Value), Mid 478 B [] (Bx b5 45 [I a1.1, I a1.2.1, I a1.2.2.1, I a1.2.2.2] :: Bx b0_ 59 [h0_1, h0_3] :: SN 61 8 nT61 h0_1 hs324 (y323) :: OwnS 79 2 h0_3 (a0.2.map cTii) :: L) a w) ?_ ?_ | refine TC.cutX (fun a w => ∃ hs324 : List (List Value), Mid 478 B [] (Bx b5 45 [I a1.1, I a1.2.1, I a1.2.2.1, I a1.2.2.2] :: Bx b0_ 59 [h0_1, h0_3] :: SN 61 8 nT61 h0_1 hs324 (y323) :: OwnS 79 2 h0_3 (a0.2.map cTii) :: L) a w) ?_ ?_
                · refine TC.cond rfl (fun hc326 => ?_) (fun hc326 => ?_)
                  · replace hj325 := cond_t hc326 hj325
                    refine TC.k ?_
                    refine TC.region ?_
                    refine TO.s rfl rfl rfl (StepS.move rfl) ?_
                    refine TO.s rfl rfl rfl (StepS.nilc rfl) ?_
                    refine TO.s rfl rfl rfl (StepS.ptrf rfl kfieldB_61_1_1_true) ?_
                    refine TO.ghost (fun _ s => Sat.front 2 rfl s) ?_
                    refine TO.openN (L' := (OwnS 3 1 (cv (gr h0_2 a1.2.1.toNat) 0) (x15.2.2.2.1.map cI) :: OwnS 52 2 (cv (gr h0_2 a1.2.1.toNat) 1) (x15.2.2.2.2.1.map cTii) :: OwnS 3 1 (cv (gr h0_2 a1.2.1.toNat) 2) (x15.2.2.2.2.2.2.1.map cI) :: OwnS 3 1 (cv (gr h0_2 a1.2.1.toNat) 3) (x15.2.2.2.2.2.2.2.map cI) :: SNh 61 8 nT61 h0_1 h0_2 (a0.1) a1.2.1.toNat [I x15.1, I x15.2.1, I x15.2.2.1, (cv (gr h0_2 a1.2.1.toNat) 0), (cv (gr h0_2 a1.2.1.toNat) 1), I x15.2.2.2.2.2.1, (cv (gr h0_2 a1.2.1.toNat) 2), (cv (gr h0_2 a1.2.1.toNat) 3)] :: Bx b5 45 [I a1.1, I a1.2.1, I a1.2.2.1, I a1.2.2.2] :: Bx b0_ 59 [h0_1, h0_3] :: OwnS 79 2 h0_3 (a0.2.map cTii) :: L)) rfl hx16 rfl ?_
                    refine TO.ghost (fun _ s => Sat.front 4 rfl s) ?_
                    refine TO.stNh (i := a1.2.1) (off := 1) (us := [I 0]) (cs' := [I x15.1, I 0, I x15.2.2.1, (cv (gr h0_2 a1.2.1.toNat) 0), (cv (gr h0_2 a1.2.1.toNat) 1), I x15.2.2.2.2.2.1, (cv (gr h0_2 a1.2.1.toNat) 2), (cv (gr h0_2 a1.2.1.toNat) 3)]) rfl rfl ksizeB_3_1_true rfl rfl rfl hx16 rfl (by simp [Value.oneCell']) rfl ?_
                    refine TO.ghost (fun _ s => Sat.front 4 rfl s) ?_
                    refine TO.ghost (fun _ s => Sat.front 4 rfl s) ?_
                    refine TO.ghost (fun _ s => Sat.front 4 rfl s) ?_
                    refine TO.ghost (fun _ s => Sat.front 4 rfl s) ?_
                    obtain ⟨y332, hy333, hj325⟩ := bind_some hj325
                    refine TO.closeN (T := nT61) (cs := [I x15.1, I 0, I x15.2.2.1, (cv (gr h0_2 a1.2.1.toNat) 0), (cv (gr h0_2 a1.2.1.toNat) 1), I x15.2.2.2.2.2.1, (cv (gr h0_2 a1.2.1.toNat) 2), (cv (gr h0_2 a1.2.1.toNat) 3)]) [(cv (gr h0_2 a1.2.1.toNat) 0), (cv (gr h0_2 a1.2.1.toNat) 1), (cv (gr h0_2 a1.2.1.toNat) 2), (cv (gr h0_2 a1.2.1.toNat) 3)] (x15.1, 0, x15.2.2.1, x15.2.2.2.1, x15.2.2.2.2.1, x15.2.2.2.2.2.1, x15.2.2.2.2.2.2.1, x15.2.2.2.2.2.2.2) rfl rfl hx16 (Option.some.inj hy333) fun hs331 => ?_
                    refine TO.code ?_
                    refine TC.k ?_
                    refine TC.region ?_
                    refine TO.s rfl rfl rfl (StepS.move rfl) ?_
                    refine TO.s rfl rfl rfl (StepS.nilc rfl) ?_
                    refine TO.s rfl rfl rfl (StepS.ptrf rfl kfieldB_61_3_3_true) ?_
                    refine TO.ghost (fun _ => Sat.nilS (e := 3) (sz := 1) (f := cI)) ?_
                    obtain ⟨x335, hx336, hj325⟩ := bind_some hj325
                    refine TO.ghost (fun _ s => Sat.front 1 rfl s) ?_
                    refine TO.openN (L' := (OwnS 3 1 (cv (gr hs331 a1.2.1.toNat) 0) (x335.2.2.2.1.map cI) :: OwnS 52 2 (cv (gr hs331 a1.2.1.toNat) 1) (x335.2.2.2.2.1.map cTii) :: OwnS 3 1 (cv (gr hs331 a1.2.1.toNat) 2) (x335.2.2.2.2.2.2.1.map cI) :: OwnS 3 1 (cv (gr hs331 a1.2.1.toNat) 3) (x335.2.2.2.2.2.2.2.map cI) :: SNh 61 8 nT61 h0_1 hs331 (y332) a1.2.1.toNat [I x335.1, I x335.2.1, I x335.2.2.1, (cv (gr hs331 a1.2.1.toNat) 0), (cv (gr hs331 a1.2.1.toNat) 1), I x335.2.2.2.2.2.1, (cv (gr hs331 a1.2.1.toNat) 2), (cv (gr hs331 a1.2.1.toNat) 3)] :: OwnS 3 1 (.slice none 0 0) (([] : List (Int)).map cI) :: Bx b5 45 [I a1.1, I a1.2.1, I a1.2.2.1, I a1.2.2.2] :: Bx b0_ 59 [h0_1, h0_3] :: OwnS 79 2 h0_3 (a0.2.map cTii) :: L)) rfl hx336 rfl ?_
                    refine TO.pure (fun _ s => Rd.one (OwnS.rd (Ent.at 5 rfl)) s) fun oc341 => ?_
                    refine TO.ghost (fun _ s => Sat.front 4 rfl s) ?_
                    refine TO.stNh (i := a1.2.1) (off := 3) (us := [(.slice none 0 0)]) (cs' := [I x335.1, I x335.2.1, I x335.2.2.1, (.slice none 0 0), (cv (gr hs331 a1.2.1.toNat) 1), I x335.2.2.2.2.2.1, (cv (gr hs331 a1.2.1.toNat) 2), (cv (gr hs331 a1.2.1.toNat) 3)]) rfl rfl ksizeB_24_1_true oc341.2 rfl rfl hx336 rfl (by intro u hu; simp only [List.mem_cons, List.not_mem_nil, or_false] at hu; rcases hu with rfl <;> first | exact oc341.1 | rfl) rfl ?_
                    refine TO.ghost (fun _ s => Sat.front 4 rfl s) ?_
                    refine TO.ghost (fun _ s => Sat.front 4 rfl s) ?_
                    refine TO.ghost (fun _ s => Sat.front 4 rfl s) ?_
                    refine TO.ghost (fun _ s => Sat.front 5 rfl s) ?_
                    obtain ⟨y343, hy344, hj325⟩ := bind_some hj325
                    refine TO.closeN (T := nT61) (cs := [I x335.1, I x335.2.1, I x335.2.2.1, (.slice none 0 0), (cv (gr hs331 a1.2.1.toNat) 1), I x335.2.2.2.2.2.1, (cv (gr hs331 a1.2.1.toNat) 2), (cv (gr hs331 a1.2.1.toNat) 3)]) [(.slice none 0 0), (cv (gr hs331 a1.2.1.toNat) 1), (cv (gr hs331 a1.2.1.toNat) 2), (cv (gr hs331 a1.2.1.toNat) 3)] (x335.1, x335.2.1, x335.2.2.1, ([] : List (Int)), x335.2.2.2.2.1, x335.2.2.2.2.2.1, x335.2.2.2.2.2.2.1, x335.2.2.2.2.2.2.2) rfl rfl hx336 (Option.some.inj hy344) fun hs342 => ?_
                    refine TO.code ?_
                    refine TC.region ?_
                    refine TO.s rfl rfl rfl (StepS.move rfl) ?_
                    refine TO.s rfl rfl rfl (StepS.nilc rfl) ?_
                    refine TO.s rfl rfl rfl (StepS.ptrf rfl kfieldB_61_5_5_true) ?_
                    obtain ⟨x345, hx346, hj325⟩ := bind_some hj325
                    refine TO.openN (L' := (OwnS 3 1 (cv (gr hs342 a1.2.1.toNat) 0) (x345.2.2.2.1.map cI) :: OwnS 52 2 (cv (gr hs342 a1.2.1.toNat) 1) (x345.2.2.2.2.1.map cTii) :: OwnS 3 1 (cv (gr hs342 a1.2.1.toNat) 2) (x345.2.2.2.2.2.2.1.map cI) :: OwnS 3 1 (cv (gr hs342 a1.2.1.toNat) 3) (x345.2.2.2.2.2.2.2.map cI) :: SNh 61 8 nT61 h0_1 hs342 (y343) a1.2.1.toNat [I x345.1, I x345.2.1, I x345.2.2.1, (cv (gr hs342 a1.2.1.toNat) 0), (cv (gr hs342 a1.2.1.toNat) 1), I x345.2.2.2.2.2.1, (cv (gr hs342 a1.2.1.toNat) 2), (cv (gr hs342 a1.2.1.toNat) 3)] :: OwnS 3 1 (cv (gr hs331 a1.2.1.toNat) 0) (x335.2.2.2.1.map cI) :: Bx b5 45 [I a1.1, I a1.2.1, I a1.2.2.1, I a1.2.2.2] :: Bx b0_ 59 [h0_1, h0_3] :: OwnS 79 2 h0_3 (a0.2.map cTii) :: L)) rfl hx346 rfl ?_
                    refine TO.ghost (fun _ s => Sat.front 4 rfl s) ?_
                    refine TO.stNh (i := a1.2.1) (off := 5) (us := [I 0]) (cs' := [I x345.1, I x345.2.1, I x345.2.2.1, (cv (gr hs342 a1.2.1.toNat) 0), (cv (gr hs342 a1.2.1.toNat) 1), I 0, (cv (gr hs342 a1.2.1.toNat) 2), (cv (gr hs342 a1.2.1.toNat) 3)]) rfl rfl ksizeB_3_1_true rfl rfl rfl hx346 rfl (by simp [Value.oneCell']) rfl ?_
                    refine TO.ghost (fun _ s => Sat.front 4 rfl s) ?_
                    refine TO.ghost (fun _ s => Sat.front 4 rfl s) ?_
                    refine TO.ghost (fun _ s => Sat.front 4 rfl s) ?_
                    refine TO.ghost (fun _ s => Sat.front 4 rfl s) ?_
                    obtain ⟨y352, hy353, hj325⟩ := bind_some hj325
                    refine TO.closeN (T := nT61) (cs := [I x345.1, I x345.2.1, I x345.2.2.1, (cv (gr hs342 a1.2.1.toNat) 0), (cv (gr hs342 a1.2.1.toNat) 1), I 0, (cv (gr hs342 a1.2.1.toNat) 2), (cv (gr hs342 a1.2.1.toNat) 3)]) [(cv (gr hs342 a1.2.1.toNat) 0), (cv (gr hs342 a1.2.1.toNat) 1), (cv (gr hs342 a1.2.1.toNat) 2), (cv (gr hs342 a1.2.1.toNat) 3)] (x345.1, x345.2.1, x345.2.2.1, x345.2.2.2.1, x345.2.2.2.2.1, 0, x345.2.2.2.2.2.2.1, x345.2.2.2.2.2.2.2) rfl rfl hx346 (Option.some.inj hy353) fun hs351 => ?_
                    cases hj325
                    refine TO.nil fun a w e s => ?_
                    exact ⟨hs351, e.sub (lk_of_allIn trivial), s.mono fun _ s => (by exact Sat.by [4, 1, 4, 4] 4 1 (by kernel_rfl) s)⟩
                  · replace hj325 := cond_f hc326 hj325
                    cases hj325
                    refine TC.skip fun a w e s => ?_
                    exact ⟨h0_2, e.sub (lk_of_allIn trivial), s⟩
                · intro a w ⟨hs324, he, hs⟩
                  refine TC.use ?_ he hs
                  refine TC.k ?_
                  refine TC.region ?_
                  refine TO.s rfl rfl rfl (StepS.assign rfl) ?_
                  refine TO.code ?_
                  cases hm
                  refine TC.ret fun a w e s => ?_
                  refine FRet.mk1 (P := Try.prog) (fn := Try.f16) (t := 6) e rfl rfl ?_
                  refine ⟨_, _, rfl, ⟨(hs324), (h0_3), rfl, rfl⟩, ?_⟩
                  refine s.mono fun _ s => ?_
                  replace s := Sat.front 3 rfl s
                  replace s := Sat.front 3 rfl s
                  replace s := Sat.front 3 rfl s
                  replace s := Sat.erase 3 s
                  exact s
end Go.Proofs.Ytacggcanjanmkaa
