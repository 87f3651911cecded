/-
  The walks: each Go function returns what its model says. Written by a program (gen.py).
-/
import Derived.Test.YtacggcanjanmkaaProg
import Derived.KernelRfl
import Derived.Test.YtacggcanjanmkaaAW
import Derived.Test.YtacggcanjanmkaaBW
import Derived.Test.YtacggcanjanmkaaCW
import Derived.Test.YtacggcanjanmkaaDW
import Derived.Test.YtacggcanjanmkaaEW
import Derived.Test.YtacggcanjanmkaaFW
import Derived.Test.YtacggcanjanmkaaHM
namespace Go.Proofs.Ytacggcanjanmkaa
open Go Go.Bk
set_option linter.unusedVariables false
set_option linter.unnecessarySimpa false
theorem kcallB_4_true : callB Try.prog 4 = true := by kernel_rfl
theorem kcallB_5_true : callB Try.prog 5 = true := by kernel_rfl
theorem kcallB_6_true : callB Try.prog 6 = true := by kernel_rfl
theorem kcallB_7_true : callB Try.prog 7 = true := by kernel_rfl
theorem kcallB_8_true : callB Try.prog 8 = true := by kernel_rfl
theorem ksliceB_25_36_1_true : sliceB Try.prog 25 36 1 = true := by kernel_rfl
theorem kcallB_9_true : callB Try.prog 9 = true := by kernel_rfl

set_option maxRecDepth 100000 in
theorem C3 {B : World} {L : List HP} {a0 : Int} {a1 : List (Int × Int × Int × Int)} {h1 : Value} {r0 : Bool} (e1 : Ent L (Rd 4 h1 (a1.map cTiiii))) (hm : F3 a0 a1 = some r0) {w : World} (st : St B L w) : Calls Try.prog 3 #[I a0, h1] w (fun e w' => (e = .returned (.bool r0) ∧ St B (L) w')) := by
  refine calls_of (N := 89) (L := L) (args := [I a0, h1]) Try.func3 rfl rfl rfl ?_ st
  dsimp only [F3] at hm
  refine TC.k ?_
  refine TC.region ?_
  refine TO.s rfl rfl rfl (StepS.assign rfl) ?_
  refine TO.code ?_
  refine TC.k ?_
  refine TC.region ?_
  refine TO.s rfl rfl rfl (StepS.move rfl) ?_
  refine TO.s rfl rfl rfl (StepS.move rfl) ?_
  obtain ⟨⟨r1, r2⟩, hc3, hm⟩ := bind_some hm
  refine TO.callO kcallB_4_true rfl rfl rfl (fun _ st => C4 e1 hc3 st) ?_
  rintro _ _ ⟨v4, v6, v8, v10, hs11, v13, rfl, rfl⟩
  refine TO.s rfl rfl rfl (StepS.move rfl) ?_
  refine TO.s rfl rfl rfl (StepS.extract rfl rfl) ?_
  refine TO.s rfl rfl rfl (StepS.extract rfl rfl) ?_
  refine TO.alloc kinfo_27_bind_zero_some_agg_slice_none_0_0_slice_none_0_0_slice_none_0_0_slice_none_0_0_slice_none_0_0 rfl rfl fun b15 => ?_
  refine TO.pure (fun _ s => Rd.one (OwnS.rd (Ent.at 1 rfl)) s) fun oc16 => ?_
  refine TO.pure (fun _ s => Rd.one (OwnS.rd (Ent.at 2 rfl)) s) fun oc17 => ?_
  refine TO.pure (fun _ s => Rd.one (OwnS.rd (Ent.at 3 rfl)) s) fun oc18 => ?_
  refine TO.pure (fun _ s => Rd.one (RR.top (SS.rr (Ent.at 4 rfl))) s) fun oc19 => ?_
  refine TO.pure (fun _ s => Rd.one (OwnS.rd (Ent.at 5 rfl)) s) fun oc20 => ?_
  refine TO.stB (us := [v4, v6, v8, v10, v13]) 0 [v4, v6, v8, v10, v13] rfl rfl rfl ksizeB_27_5_true rfl rfl rfl (by intro u hu; simp only [List.mem_cons, List.not_mem_nil, or_false] at hu; rcases hu with rfl | rfl | rfl | rfl | rfl <;> first | exact oc16.1 | exact oc17.1 | exact oc18.1 | exact oc19.1 | exact oc20.1 | rfl) rfl ?_
  refine TO.s rfl rfl rfl (StepS.assign rfl) ?_
  refine TO.code ?_
  refine TC.k ?_
  refine TC.region ?_
  refine TO.s rfl rfl rfl (StepS.move rfl) ?_
  refine TO.s rfl rfl rfl (StepS.move rfl) ?_
  refine TO.s rfl rfl rfl (StepS.lenm rfl e1.tl.tl.tl.tl.tl.tl ksliceB_22_45_4_true rfl) ?_
  obtain ⟨r21, hc22, hm⟩ := bind_some hm
  refine TO.q rfl rfl rfl (StepQ.call kcallB_5_true rfl rfl (fun _ st => C5  hc22 st)) ?_
  refine TO.s rfl rfl rfl (StepS.assign rfl) ?_
  refine TO.code ?_
  refine TC.k ?_
  refine TC.region ?_
  refine TO.s rfl rfl rfl (StepS.build (cs := [.slice none 0 0, .slice none 0 0, .slice none 0 0, .slice none 0 0, .slice none 0 0]) rfl (by kernel_rfl)) ?_
  refine TO.alloc kinfo_27_bind_zero_some_agg_slice_none_0_0_slice_none_0_0_slice_none_0_0_slice_none_0_0_slice_none_0_0 rfl rfl fun b23 => ?_
  refine TO.stB (us := [.slice none 0 0, .slice none 0 0, .slice none 0 0, .slice none 0 0, .slice none 0 0]) 0 [.slice none 0 0, .slice none 0 0, .slice none 0 0, .slice none 0 0, .slice none 0 0] rfl rfl rfl ksizeB_27_5_true rfl rfl rfl (by simp [Value.oneCell']) rfl ?_
  refine TO.code ?_
  refine TC.k ?_
  refine TC.k ?_
  refine TC.region ?_
  refine TO.s rfl rfl rfl (StepS.move rfl) ?_
  refine TO.s rfl rfl rfl (StepS.cmp rfl rfl rfl) ?_
  refine TO.code ?_
  obtain ⟨⟨y26, y29, y32, y36, y39⟩, hj40, hm⟩ := bind_some hm
  first | refine TC.cutM (fun a w => ∃ v24 : Value, ∃ v27 : Value, ∃ v30 : Value, ∃ v33 : Value, ∃ hs34 : List Value, ∃ v37 : Value, Mid 89 B [(5, .pointer (some ⟨b15, 0, none⟩)), (6, I r2), (7, I r21), (8, .pointer (some ⟨b23, 0, none⟩))] (OwnS 28 1 v24 (y26.map cI) :: OwnS 3 1 v27 (y29.map cI) :: OwnS 3 1 v30 (y32.map cI) :: SS 36 52 2 cTii v33 hs34 (y36) :: OwnS 3 1 v37 (y39.map cI) :: Bx b23 27 [v24, v27, v30, v33, v37] :: Bx b15 27 [v4, v6, v8, v10, v13] :: OwnS 28 1 v4 (r1.1.map cI) :: OwnS 3 1 v6 (r1.2.1.map cI) :: OwnS 3 1 v8 (r1.2.2.1.map cI) :: SS 36 52 2 cTii v10 hs11 (r1.2.2.2.1) :: OwnS 3 1 v13 (r1.2.2.2.2.map cI) :: L) a w) ?_ ?_ | refine TC.cutX (fun a w => ∃ v24 : Value, ∃ v27 : Value, ∃ v30 : Value, ∃ v33 : Value, ∃ hs34 : List Value, ∃ v37 : Value, Mid 89 B [(5, .pointer (some ⟨b15, 0, none⟩)), (6, I r2), (7, I r21), (8, .pointer (some ⟨b23, 0, none⟩))] (OwnS 28 1 v24 (y26.map cI) :: OwnS 3 1 v27 (y29.map cI) :: OwnS 3 1 v30 (y32.map cI) :: SS 36 52 2 cTii v33 hs34 (y36) :: OwnS 3 1 v37 (y39.map cI) :: Bx b23 27 [v24, v27, v30, v33, v37] :: Bx b15 27 [v4, v6, v8, v10, v13] :: OwnS 28 1 v4 (r1.1.map cI) :: OwnS 3 1 v6 (r1.2.1.map cI) :: OwnS 3 1 v8 (r1.2.2.1.map cI) :: SS 36 52 2 cTii v10 hs11 (r1.2.2.2.1) :: OwnS 3 1 v13 (r1.2.2.2.2.map cI) :: L) a w) ?_ ?_
  · refine TC.cond rfl (fun hc41 => ?_) (fun hc41 => ?_)
    · replace hj40 := cond_t hc41 hj40
      refine TC.region ?_
      refine TO.s rfl rfl rfl (StepS.move rfl) ?_
      refine TO.s rfl rfl rfl (StepS.move rfl) ?_
      obtain ⟨r42, hc43, hj40⟩ := bind_some hj40
      refine TO.callO kcallB_6_true rfl rfl rfl (fun _ st => C6 e1.tl.tl.tl.tl.tl.tl.tl hc43 st) ?_
      rintro _ _ ⟨v44, v46, v48, v50, hs51, v53, rfl, rfl⟩
      refine TO.pure (fun _ s => Rd.one (OwnS.rd (Ent.at 0 rfl)) s) fun oc55 => ?_
      refine TO.pure (fun _ s => Rd.one (OwnS.rd (Ent.at 1 rfl)) s) fun oc56 => ?_
      refine TO.pure (fun _ s => Rd.one (OwnS.rd (Ent.at 2 rfl)) s) fun oc57 => ?_
      refine TO.pure (fun _ s => Rd.one (RR.top (SS.rr (Ent.at 3 rfl))) s) fun oc58 => ?_
      refine TO.pure (fun _ s => Rd.one (OwnS.rd (Ent.at 4 rfl)) s) fun oc59 => ?_
      refine TO.stB (us := [v44, v46, v48, v50, v53]) 5 [v44, v46, v48, v50, v53] rfl rfl rfl ksizeB_27_5_true rfl rfl rfl (by intro u hu; simp only [List.mem_cons, List.not_mem_nil, or_false] at hu; rcases hu with rfl | rfl | rfl | rfl | rfl <;> first | exact oc55.1 | exact oc56.1 | exact oc57.1 | exact oc58.1 | exact oc59.1 | rfl) rfl ?_
      cases hj40
      refine TO.nil fun a w e s => ?_
      exact ⟨v44, v46, v48, v50, hs51, v53, e.sub (lk_of_allIn ⟨rfl, rfl, rfl, rfl, trivial⟩), s⟩
    · replace hj40 := cond_f hc41 hj40
      cases hj40
      refine TC.skip fun a w e s => ?_
      exact ⟨.slice none 0 0, .slice none 0 0, .slice none 0 0, .slice none 0 0, [], .slice none 0 0, e.sub (lk_of_allIn ⟨rfl, rfl, rfl, rfl, trivial⟩), s.mono fun _ s => (by replace s := Sat.nilS (e := 3) (sz := 1) (f := cI) s; replace s := Sat.nilSS (e := 36) (ee := 52) (sz := 2) (f := cTii) s; replace s := Sat.nilS (e := 3) (sz := 1) (f := cI) s; replace s := Sat.nilS (e := 3) (sz := 1) (f := cI) s; replace s := Sat.nilS (e := 28) (sz := 1) (f := cI) s; exact Sat.by [11, 11, 11, 11, 11, 11, 11, 11, 11, 11, 11, 11] 12 0 (by kernel_rfl) s)⟩
  · intro a w ⟨v24, v27, v30, v33, hs34, v37, he, hs⟩
    refine TC.use ?_ he hs
    refine TC.k ?_
    refine TC.k ?_
    refine TC.region ?_
    refine TO.s rfl rfl rfl (StepS.move rfl) ?_
    refine TO.s rfl rfl rfl (StepS.move rfl) ?_
    refine TO.s rfl rfl rfl (StepS.cmp rfl rfl rfl) ?_
    refine TO.s rfl rfl rfl (StepS.move rfl) ?_
    obtain ⟨b61, hj62, hm⟩ := bind_some hm
    refine TO.mid1 7 36 (.bool b61) ?_ ?_
    · refine bcase ((r2 != r21)) (fun hb60 => ?_) (fun hb60 => ?_)
      · replace hj62 := cond_t hb60 hj62
        cases hj62
        refine TO.skip rfl rfl rfl (skipT hb60) rfl rfl ?_
        refine TO.skip rfl rfl rfl (skipT hb60) rfl rfl ?_
        refine TO.skip rfl rfl rfl (skipT hb60) rfl rfl ?_
        refine TO.skip rfl rfl rfl (skipT hb60) rfl rfl ?_
        refine TO.skip rfl rfl rfl (skipT hb60) rfl rfl ?_
        refine TO.skip rfl rfl rfl (skipT hb60) rfl rfl ?_
        refine TO.s rfl rfl rfl (StepS.pickT rfl hb60 rfl) ?_
        exact TO.up1 7 0 rfl rfl rfl rfl
      · replace hj62 := cond_f hb60 hj62
        refine TO.sw rfl rfl rfl hb60 rfl rfl (StepS.fld rfl kfieldB_27_0_0_true) ?_
        refine TO.sw rfl rfl rfl hb60 rfl rfl (StepS.ldB rfl (Ent.at 6 rfl) kscalB_23_true rfl) ?_
        refine TO.sw rfl rfl rfl hb60 rfl rfl (StepS.fld rfl kfieldB_27_0_0_true) ?_
        refine TO.sw rfl rfl rfl hb60 rfl rfl (StepS.ldB rfl (Ent.at 5 rfl) kscalB_23_true rfl) ?_
        obtain ⟨r63, hc64, hj62⟩ := bind_some hj62
        refine TO.qw rfl rfl rfl hb60 rfl rfl (StepQ.call kcallB_7_true rfl rfl (fun _ st => C7 (OwnS.rd (Ent.at 7 rfl)) (OwnS.rd (Ent.at 0 rfl)) hc64 st)) ?_
        refine TO.sw rfl rfl rfl hb60 rfl rfl (StepS.not rfl) ?_
        cases hj62
        refine TO.s rfl rfl rfl (StepS.pickF rfl hb60 rfl) ?_
        exact TO.up1 7 0 rfl rfl rfl rfl
    refine TO.s rfl rfl rfl (StepS.move rfl) ?_
    obtain ⟨b66, hj67, hm⟩ := bind_some hm
    refine TO.mid1 7 44 (.bool b66) ?_ ?_
    · refine bcase (b61) (fun hb65 => ?_) (fun hb65 => ?_)
      · replace hj67 := cond_t hb65 hj67
        cases hj67
        refine TO.skip rfl rfl rfl (skipT hb65) rfl rfl ?_
        refine TO.skip rfl rfl rfl (skipT hb65) rfl rfl ?_
        refine TO.skip rfl rfl rfl (skipT hb65) rfl rfl ?_
        refine TO.skip rfl rfl rfl (skipT hb65) rfl rfl ?_
        refine TO.skip rfl rfl rfl (skipT hb65) rfl rfl ?_
        refine TO.skip rfl rfl rfl (skipT hb65) rfl rfl ?_
        refine TO.s rfl rfl rfl (StepS.pickT rfl hb65 rfl) ?_
        exact TO.up1 7 0 rfl rfl rfl rfl
      · replace hj67 := cond_f hb65 hj67
        refine TO.sw rfl rfl rfl hb65 rfl rfl (StepS.fld rfl kfieldB_27_1_1_true) ?_
        refine TO.sw rfl rfl rfl hb65 rfl rfl (StepS.ldB rfl (Ent.at 6 rfl) kscalB_24_true rfl) ?_
        refine TO.sw rfl rfl rfl hb65 rfl rfl (StepS.fld rfl kfieldB_27_1_1_true) ?_
        refine TO.sw rfl rfl rfl hb65 rfl rfl (StepS.ldB rfl (Ent.at 5 rfl) kscalB_24_true rfl) ?_
        obtain ⟨r68, hc69, hj67⟩ := bind_some hj67
        refine TO.qw rfl rfl rfl hb65 rfl rfl (StepQ.call kcallB_8_true rfl rfl (fun _ st => C8 (OwnS.rd (Ent.at 8 rfl)) (OwnS.rd (Ent.at 1 rfl)) hc69 st)) ?_
        refine TO.sw rfl rfl rfl hb65 rfl rfl (StepS.not rfl) ?_
        cases hj67
        refine TO.s rfl rfl rfl (StepS.pickF rfl hb65 rfl) ?_
        exact TO.up1 7 0 rfl rfl rfl rfl
    refine TO.s rfl rfl rfl (StepS.move rfl) ?_
    obtain ⟨b71, hj72, hm⟩ := bind_some hm
    refine TO.mid1 7 52 (.bool b71) ?_ ?_
    · refine bcase (b66) (fun hb70 => ?_) (fun hb70 => ?_)
      · replace hj72 := cond_t hb70 hj72
        cases hj72
        refine TO.skip rfl rfl rfl (skipT hb70) rfl rfl ?_
        refine TO.skip rfl rfl rfl (skipT hb70) rfl rfl ?_
        refine TO.skip rfl rfl rfl (skipT hb70) rfl rfl ?_
        refine TO.skip rfl rfl rfl (skipT hb70) rfl rfl ?_
        refine TO.skip rfl rfl rfl (skipT hb70) rfl rfl ?_
        refine TO.skip rfl rfl rfl (skipT hb70) rfl rfl ?_
        refine TO.s rfl rfl rfl (StepS.pickT rfl hb70 rfl) ?_
        exact TO.up1 7 0 rfl rfl rfl rfl
      · replace hj72 := cond_f hb70 hj72
        refine TO.sw rfl rfl rfl hb70 rfl rfl (StepS.fld rfl kfieldB_27_2_2_true) ?_
        refine TO.sw rfl rfl rfl hb70 rfl rfl (StepS.ldB rfl (Ent.at 6 rfl) kscalB_24_true rfl) ?_
        refine TO.sw rfl rfl rfl hb70 rfl rfl (StepS.fld rfl kfieldB_27_2_2_true) ?_
        refine TO.sw rfl rfl rfl hb70 rfl rfl (StepS.ldB rfl (Ent.at 5 rfl) kscalB_24_true rfl) ?_
        obtain ⟨r73, hc74, hj72⟩ := bind_some hj72
        refine TO.qw rfl rfl rfl hb70 rfl rfl (StepQ.call kcallB_8_true rfl rfl (fun _ st => C8 (OwnS.rd (Ent.at 9 rfl)) (OwnS.rd (Ent.at 2 rfl)) hc74 st)) ?_
        refine TO.sw rfl rfl rfl hb70 rfl rfl (StepS.not rfl) ?_
        cases hj72
        refine TO.s rfl rfl rfl (StepS.pickF rfl hb70 rfl) ?_
        exact TO.up1 7 0 rfl rfl rfl rfl
    refine TO.s rfl rfl rfl (StepS.move rfl) ?_
    obtain ⟨b76, hj77, hm⟩ := bind_some hm
    refine TO.mid1 7 60 (.bool b76) ?_ ?_
    · refine bcase (b71) (fun hb75 => ?_) (fun hb75 => ?_)
      · replace hj77 := cond_t hb75 hj77
        cases hj77
        refine TO.skip rfl rfl rfl (skipT hb75) rfl rfl ?_
        refine TO.skip rfl rfl rfl (skipT hb75) rfl rfl ?_
        refine TO.skip rfl rfl rfl (skipT hb75) rfl rfl ?_
        refine TO.skip rfl rfl rfl (skipT hb75) rfl rfl ?_
        refine TO.skip rfl rfl rfl (skipT hb75) rfl rfl ?_
        refine TO.skip rfl rfl rfl (skipT hb75) rfl rfl ?_
        refine TO.s rfl rfl rfl (StepS.pickT rfl hb75 rfl) ?_
        exact TO.up1 7 0 rfl rfl rfl rfl
      · replace hj77 := cond_f hb75 hj77
        refine TO.sw rfl rfl rfl hb75 rfl rfl (StepS.fld rfl kfieldB_27_4_4_true) ?_
        refine TO.sw rfl rfl rfl hb75 rfl rfl (StepS.ldB rfl (Ent.at 6 rfl) kscalB_24_true rfl) ?_
        refine TO.sw rfl rfl rfl hb75 rfl rfl (StepS.fld rfl kfieldB_27_4_4_true) ?_
        refine TO.sw rfl rfl rfl hb75 rfl rfl (StepS.ldB rfl (Ent.at 5 rfl) kscalB_24_true rfl) ?_
        obtain ⟨r78, hc79, hj77⟩ := bind_some hj77
        refine TO.qw rfl rfl rfl hb75 rfl rfl (StepQ.call kcallB_8_true rfl rfl (fun _ st => C8 (OwnS.rd (Ent.at 11 rfl)) (OwnS.rd (Ent.at 4 rfl)) hc79 st)) ?_
        refine TO.sw rfl rfl rfl hb75 rfl rfl (StepS.not rfl) ?_
        cases hj77
        refine TO.s rfl rfl rfl (StepS.pickF rfl hb75 rfl) ?_
        exact TO.up1 7 0 rfl rfl rfl rfl
    refine TO.s rfl rfl rfl (StepS.move rfl) ?_
    refine TO.mid1 8 69 (.bool (b76 || ((r1.2.2.2.1.length : Int) != (y36.length : Int)))) ?_ ?_
    · refine bcase (b76) (fun hb80 => ?_) (fun hb80 => ?_)
      · refine TO.skip rfl rfl rfl (skipT hb80) rfl rfl ?_
        refine TO.skip rfl rfl rfl (skipT hb80) rfl rfl ?_
        refine TO.skip rfl rfl rfl (skipT hb80) rfl rfl ?_
        refine TO.skip rfl rfl rfl (skipT hb80) rfl rfl ?_
        refine TO.skip rfl rfl rfl (skipT hb80) rfl rfl ?_
        refine TO.skip rfl rfl rfl (skipT hb80) rfl rfl ?_
        refine TO.skip rfl rfl rfl (skipT hb80) rfl rfl ?_
        refine TO.s rfl rfl rfl (StepS.pickT rfl hb80 rfl) ?_
        exact TO.up1 8 0 rfl rfl (by rw [hb80]; rfl) rfl
      · refine TO.sw rfl rfl rfl hb80 rfl rfl (StepS.fld rfl kfieldB_27_3_3_true) ?_
        refine TO.sw rfl rfl rfl hb80 rfl rfl (StepS.ldB rfl (Ent.at 6 rfl) kscalB_25_true rfl) ?_
        refine TO.sw rfl rfl rfl hb80 rfl rfl (StepS.lenRR rfl (SS.rr (Ent.at 10 rfl)) ksliceB_25_36_1_true rfl) ?_
        refine TO.sw rfl rfl rfl hb80 rfl rfl (StepS.fld rfl kfieldB_27_3_3_true) ?_
        refine TO.sw rfl rfl rfl hb80 rfl rfl (StepS.ldB rfl (Ent.at 5 rfl) kscalB_25_true rfl) ?_
        refine TO.sw rfl rfl rfl hb80 rfl rfl (StepS.lenRR rfl (SS.rr (Ent.at 3 rfl)) ksliceB_25_36_1_true rfl) ?_
        refine TO.sw rfl rfl rfl hb80 rfl rfl (StepS.cmp rfl rfl rfl) ?_
        refine TO.s rfl rfl rfl (StepS.pickF rfl hb80 rfl) ?_
        exact TO.up1 8 0 rfl rfl (by rw [hb80]; rfl) rfl
    refine TO.code ?_
    refine TC.cond rfl (fun hc81 => ?_) (fun hc81 => ?_)
    · replace hm := cond_t hc81 hm
      refine TC.k ?_
      refine TC.region ?_
      refine TO.s rfl rfl rfl (StepS.assign rfl) ?_
      refine TO.code ?_
      cases hm
      refine TC.ret fun a w e s => ?_
      refine FRet.mk1 (P := Try.prog) (fn := Try.f3) (t := 4) e rfl rfl ?_
      exact ⟨rfl, s.mono fun _ => Sat.dropN 12⟩
    · replace hm := cond_f hc81 hm
      refine TC.skipk ?_
      refine TC.k ?_
      refine TC.k ?_
      refine TC.region ?_
      refine TO.s rfl rfl rfl (StepS.assign rfl) ?_
      refine TO.code ?_
      obtain ⟨o84, hw85, hm⟩ := bind_some hm
      refine TC.loop hw85 (fun x82 => fun a w => Mid 89 B [(5, .pointer (some ⟨b15, 0, none⟩)), (8, .pointer (some ⟨b23, 0, none⟩)), (9, I x82)] (OwnS 28 1 v24 (y26.map cI) :: OwnS 3 1 v27 (y29.map cI) :: OwnS 3 1 v30 (y32.map cI) :: SS 36 52 2 cTii v33 hs34 (y36) :: OwnS 3 1 v37 (y39.map cI) :: Bx b23 27 [v24, v27, v30, v33, v37] :: Bx b15 27 [v4, v6, v8, v10, v13] :: OwnS 28 1 v4 (r1.1.map cI) :: OwnS 3 1 v6 (r1.2.1.map cI) :: OwnS 3 1 v8 (r1.2.2.1.map cI) :: SS 36 52 2 cTii v10 hs11 (r1.2.2.2.1) :: OwnS 3 1 v13 (r1.2.2.2.2.map cI) :: L) a w) (fun _ => fun a w => Mid 89 B [] (OwnS 28 1 v24 (y26.map cI) :: OwnS 3 1 v27 (y29.map cI) :: OwnS 3 1 v30 (y32.map cI) :: SS 36 52 2 cTii v33 hs34 (y36) :: OwnS 3 1 v37 (y39.map cI) :: Bx b23 27 [v24, v27, v30, v33, v37] :: Bx b15 27 [v4, v6, v8, v10, v13] :: OwnS 28 1 v4 (r1.1.map cI) :: OwnS 3 1 v6 (r1.2.1.map cI) :: OwnS 3 1 v8 (r1.2.2.1.map cI) :: SS 36 52 2 cTii v10 hs11 (r1.2.2.2.1) :: OwnS 3 1 v13 (r1.2.2.2.2.map cI) :: L) a w) (fun r0 => FRet Try.prog Try.f3 (fun e w' => (e = .returned (.bool r0) ∧ St B (L) w'))) ?_ ?_ ?_ ?_
      · rintro x82 o84r hb86 a w ⟨he, hs⟩
        dsimp only [F3_L0] at hb86
        refine TC.use ?_ he hs
        refine TC.k ?_
        refine TC.k ?_
        refine TC.region ?_
        refine TO.s rfl rfl rfl (StepS.move rfl) ?_
        refine TO.s rfl rfl rfl (StepS.fld rfl kfieldB_27_3_3_true) ?_
        refine TO.s rfl rfl rfl (StepS.ldB rfl (Ent.at 6 rfl) kscalB_25_true rfl) ?_
        refine TO.s rfl rfl rfl (StepS.lenRR rfl (SS.rr (Ent.at 10 rfl)) ksliceB_25_36_1_true rfl) ?_
        refine TO.s rfl rfl rfl (StepS.cmp rfl rfl rfl) ?_
        refine TO.code ?_
        refine TC.cond rfl (fun hc87 => ?_) (fun hc87 => ?_)
        · replace hb86 := cond_t hc87 hb86
          refine TC.skipk ?_
          refine TC.k ?_
          refine TC.block ?_
          refine TC.k ?_
          refine TC.region_quiet kfollows_mixedOrders_true (by kernel_rfl) ?_
          refine TQ.s rfl rfl rfl (StepS.fld rfl kfieldB_27_3_3_true).q ?_
          refine TQ.s rfl rfl rfl (StepS.ldB rfl (Ent.at 6 rfl) kscalB_25_true rfl).q ?_
          refine TQ.s rfl rfl rfl (StepS.move rfl).q ?_
          obtain ⟨x88, hx89, hb86⟩ := bind_some hb86
          refine TQ.s rfl rfl rfl (StepS.idxRR rfl rfl (SS.rr (Ent.at 10 rfl)) ksliceB_25_36_1_true hx89).q ?_
          refine TQ.s rfl rfl rfl (StepS.ldRR rfl (SS.rr (Ent.at 10 rfl)) kscalB_36_true hx89).q ?_
          refine TQ.s rfl rfl rfl (StepS.fld rfl kfieldB_27_3_3_true).q ?_
          refine TQ.s rfl rfl rfl (StepS.ldB rfl (Ent.at 5 rfl) kscalB_25_true rfl).q ?_
          refine TQ.s rfl rfl rfl (StepS.move rfl).q ?_
          obtain ⟨x91, hx92, hb86⟩ := bind_some hb86
          refine TQ.s rfl rfl rfl (StepS.idxRR rfl rfl (SS.rr (Ent.at 3 rfl)) ksliceB_25_36_1_true hx92).q ?_
          refine TQ.s rfl rfl rfl (StepS.ldRR rfl (SS.rr (Ent.at 3 rfl)) kscalB_36_true hx92).q ?_
          obtain ⟨r94, hc95, hb86⟩ := bind_some hb86
          refine TQ.s rfl rfl rfl (StepQ.call kcallB_9_true rfl rfl (fun _ st => C9 (RR.row (SS.rr (Ent.at 10 rfl)) hx89) (RR.row (SS.rr (Ent.at 3 rfl)) hx92) hc95 st)) ?_
          refine TQ.s rfl rfl rfl (StepS.not rfl).q ?_
          refine TQ.code ?_
          refine TC.cond rfl (fun hc96 => ?_) (fun hc96 => ?_)
          · replace hb86 := cond_t hc96 hb86
            refine TC.k ?_
            refine TC.region ?_
            refine TO.s rfl rfl rfl (StepS.assign rfl) ?_
            refine TO.code ?_
            cases hb86
            refine TC.ret fun a w e s => ?_
            refine FRet.mk1 (P := Try.prog) (fn := Try.f3) (t := 4) e rfl rfl ?_
            exact ⟨rfl, s.mono fun _ => Sat.dropN 12⟩
          · replace hb86 := cond_f hc96 hb86
            refine TC.skipk ?_
            refine TC.region ?_
            refine TO.s rfl rfl rfl (StepS.move rfl) ?_
            refine TO.s rfl rfl rfl (StepS.ari rfl rfl rfl) ?_
            refine TO.s rfl rfl rfl (StepS.assign rfl) ?_
            cases hb86
            refine TO.nil fun a w e s => ?_
            exact ⟨e.sub (lk_of_allIn ⟨rfl, rfl, rfl, trivial⟩), s⟩
        · replace hb86 := cond_f hc87 hb86
          cases hb86
          refine TC.exit rfl fun a w e s => ?_
          exact ⟨e.sub (lk_of_allIn trivial), s⟩
      · exact fun a w e s => ⟨e.sub (lk_of_allIn ⟨rfl, rfl, rfl, trivial⟩), s⟩
      · rintro _ rfl a w ⟨he, hs⟩
        dsimp only [Ctl.on] at hm
        refine TC.use ?_ he hs
        refine TC.k ?_
        refine TC.region ?_
        refine TO.s rfl rfl rfl (StepS.assign rfl) ?_
        refine TO.code ?_
        cases hm
        refine TC.ret fun a w e s => ?_
        refine FRet.mk1 (P := Try.prog) (fn := Try.f3) (t := 4) e rfl rfl ?_
        exact ⟨rfl, s.mono fun _ => Sat.dropN 12⟩
      · rintro r rfl
        cases hm
        exact fun a w h => h
end Go.Proofs.Ytacggcanjanmkaa
