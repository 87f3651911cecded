/-
  The walks: each Go function returns what its model says. Written by a program (gen.py).
-/
import Derived.Test.YtadfgohglcglcaaDoorProg
import Derived.KernelRfl
import Derived.Test.YtadfgohglcglcaaDoorSW
import Derived.Test.YtadfgohglcglcaaDoorNW
import Derived.Test.YtadfgohglcglcaaDoorKW
import Derived.Test.YtadfgohglcglcaaDoorMM
namespace Go.Proofs.YtadfgohglcglcaaDoor
open Go Go.Bk
set_option linter.unusedVariables false
set_option linter.unnecessarySimpa false
theorem kcallB_21_true : callB Tryd.prog 21 = true := by kernel_rfl
theorem kunderlying_4_some_bool : Tryd.prog.underlying 4 = some .bool := by kernel_rfl

set_option maxRecDepth 100000 in
theorem C21 {B : World} {L : List HP} {a0 : List (Int × ByteArray × ByteArray × Int)} {a1 : List (Int × ByteArray × ByteArray × Int)} {h0 : Value} {h1 : Value} {r0 : List (Int × ByteArray × Int × List ByteArray)} {r1 : Bool} {r2 : Int} (e0 : Ent L (Rd 4 h0 (a0.map cTissi))) (e1 : Ent L (Rd 4 h1 (a1.map cTissi))) (hm : F21 a0 a1 = some (r0, r1, r2)) {w : World} (st : St B L w) : Calls Tryd.prog 21 #[h0, h1] w (fun e w' => ∃ v M, e = .returned v ∧ (∃ (qv1 : Value) (qhs2 : List (List Value)), v = .tuple #[qv1, .bool r1, I r2] ∧ M = (SN 41 4 nT41 qv1 qhs2 (r0) :: L)) ∧ St B M w') := by
  refine calls_of (N := 50) (L := L) (args := [h0, h1]) Tryd.func21 rfl rfl rfl ?_ st
  dsimp only [F21] at hm
  refine TC.k ?_
  refine TC.region ?_
  refine TO.s rfl rfl rfl (StepS.assign rfl) ?_
  refine TO.s rfl rfl rfl (StepS.assign rfl) ?_
  refine TO.s rfl rfl rfl (StepS.assign rfl) ?_
  refine TO.code ?_
  refine TC.k ?_
  refine TC.k ?_
  refine TC.region ?_
  refine TO.s rfl rfl rfl (StepS.move rfl) ?_
  refine TO.s rfl rfl rfl (StepS.lenm rfl e0 ksliceB_34_45_4_true rfl) ?_
  refine TO.s rfl rfl rfl (StepS.move rfl) ?_
  refine TO.s rfl rfl rfl (StepS.lenm rfl e1 ksliceB_34_45_4_true rfl) ?_
  refine TO.s rfl rfl rfl (StepS.ari rfl rfl rfl) ?_
  refine TO.s rfl rfl rfl (StepS.cmp rfl rfl rfl) ?_
  refine TO.code ?_
  refine TC.cond rfl (fun hc2 => ?_) (fun hc2 => ?_)
  · replace hm := cond_t hc2 hm
    refine TC.k ?_
    refine TC.region ?_
    refine TO.s rfl rfl rfl (StepS.assign rfl) ?_
    refine TO.s rfl rfl rfl (StepS.assign rfl) ?_
    refine TO.s rfl rfl rfl (StepS.assign rfl) ?_
    refine TO.code ?_
    cases hm
    refine TC.ret fun a w e s => ?_
    refine FRet.mk3 (P := Tryd.prog) (fn := Tryd.f21) (t := 4) (u := 5) (s := 6) e rfl rfl rfl rfl ?_
    refine ⟨_, _, rfl, ⟨(.slice none 0 0), ([]), rfl, rfl⟩, ?_⟩
    refine s.mono fun _ s => ?_
    replace s := Sat.nilSN (e := 41) (sz := 4) (T := nT41) s
    exact s
  · replace hm := cond_f hc2 hm
    refine TC.skipk ?_
    refine TC.k ?_
    refine TC.region ?_
    obtain ⟨r3, hc4, hm⟩ := bind_some hm
    refine TO.callO kcallB_26_true rfl rfl rfl (fun _ st => C26  hc4 st) ?_
    rintro _ _ ⟨b7, r5, rfl, rfl⟩
    refine TO.s rfl rfl rfl (StepS.assign rfl) ?_
    refine TO.code ?_
    refine TC.k ?_
    refine TC.k ?_
    refine TC.region ?_
    refine TO.s rfl rfl rfl (StepS.move rfl) ?_
    refine TO.s rfl rfl rfl (StepS.lenm rfl e0.tl.tl ksliceB_34_45_4_true rfl) ?_
    refine TO.s rfl rfl rfl (StepS.move rfl) ?_
    refine TO.code ?_
    obtain ⟨o19, hw20, hm⟩ := bind_some hm
    refine TC.loop hw20 (fun (y10, x11) => fun a w => ∃ r9 : Nat, Mid 50 B [(1, h1), (7, .pointer (some ⟨b7, 0, none⟩)), (21, h0), (22, I (a0.length : Int)), (23, I x11)] (MF (fun k : ByteArray => .string k) (fun x : ByteArray × Int => .agg (cTsi x).toArray) r9 (y10) :: Bx b7 103 [.map (some r9)] :: L) a w) (fun y18 => fun a w => ∃ r17 : Nat, Mid 50 B [(1, h1), (7, .pointer (some ⟨b7, 0, none⟩))] (MF (fun k : ByteArray => .string k) (fun x : ByteArray × Int => .agg (cTsi x).toArray) r17 (y18) :: Bx b7 103 [.map (some r17)] :: L) a w) (fun (_ : Unit) _ _ => False) ?_ ?_ ?_ ?_
    · rintro ⟨y10, x11⟩ o19r hb21 a w ⟨r9, he, hs⟩
      dsimp only [F21_L0] at hb21
      refine TC.use ?_ he hs
      refine TC.k ?_
      refine TC.region ?_
      refine TO.s rfl rfl rfl (StepS.cmp rfl rfl rfl) ?_
      refine TO.code ?_
      refine TC.k ?_
      refine TC.cond rfl (fun hc22 => ?_) (fun hc22 => ?_)
      · replace hb21 := cond_t hc22 hb21
        refine TC.skipk ?_
        refine TC.k ?_
        refine TC.block ?_
        refine TC.k ?_
        refine TC.region ?_
        obtain ⟨x23, hx24, hb21⟩ := bind_some hb21
        refine TO.s rfl rfl rfl (StepS.idx rfl rfl e0.tl.tl ksliceB_34_45_4_true (idx_spec hx24).1 (idxm_lt hx24)) ?_
        refine TO.s rfl rfl rfl (StepS.ldE rfl e0.tl.tl kaggB_45_4_true rfl (idxm hx24)) ?_
        refine TO.alloc kinfo_45_bind_zero_some_agg_I_0_string_ByteArray_empty_string_ByteArray_empty_I_0 rfl rfl fun b25 => ?_
        refine TO.stB (us := [I x23.1, .string x23.2.1, .string x23.2.2.1, I x23.2.2.2]) 0 [I x23.1, .string x23.2.1, .string x23.2.2.1, I x23.2.2.2] rfl rfl rfl ksizeB_45_4_true rfl rfl rfl (by simp [Value.oneCell']) rfl ?_
        refine TO.code ?_
        refine TC.region ?_
        refine TO.s rfl rfl rfl (StepS.move rfl) ?_
        refine TO.s rfl rfl rfl (StepS.ldBA rfl (Ent.at 0 rfl) kaggB_45_4_true rfl rfl) ?_
        refine TO.ghost (fun _ s => Sat.front 1 rfl s) ?_
        refine TO.ghost (fun _ s => Sat.front 2 rfl s) ?_
        obtain ⟨⟨r26, r27⟩, hc28, hb21⟩ := bind_some hb21
        refine TO.callO kcallB_29_true rfl rfl rfl (fun _ st => C29 (a0 := y10)  hc28 st) ?_
        rintro _ _ ⟨r29, v31, rfl, rfl⟩
        refine TO.code ?_
        refine TC.region ?_
        refine TO.s rfl rfl rfl (StepS.ari rfl rfl rfl) ?_
        refine TO.s rfl rfl rfl (StepS.move rfl) ?_
        cases hb21
        refine TO.nil fun a w e s => ?_
        exact ⟨r29, e.sub (lk_of_allIn ⟨rfl, rfl, rfl, rfl, rfl, trivial⟩), s.mono fun _ s => (by exact Sat.by [0, 1] 2 2 (by kernel_rfl) s)⟩
      · replace hb21 := cond_f hc22 hb21
        cases hb21
        refine TC.exit rfl fun a w e s => ?_
        exact ⟨r9, e.sub (lk_of_allIn ⟨rfl, rfl, trivial⟩), s⟩
    · exact fun a w e s => ⟨r5, e.sub (lk_of_allIn ⟨rfl, rfl, rfl, rfl, rfl, trivial⟩), s.mono fun _ s => (by exact Sat.by [0, 1] 2 0 (by kernel_rfl) s)⟩
    · rintro y18 rfl a w ⟨r17, he, hs⟩
      dsimp only [Ctl.on] at hm
      refine TC.use ?_ he hs
      refine TC.k ?_
      refine TC.region ?_
      refine TO.s rfl rfl rfl (StepS.assign rfl) ?_
      refine TO.code ?_
      refine TC.k ?_
      refine TC.k ?_
      refine TC.region ?_
      refine TO.s rfl rfl rfl (StepS.move rfl) ?_
      refine TO.s rfl rfl rfl (StepS.lenm rfl e1.tl.tl ksliceB_34_45_4_true rfl) ?_
      refine TO.s rfl rfl rfl (StepS.move rfl) ?_
      refine TO.code ?_
      obtain ⟨o56, hw57, hm⟩ := bind_some hm
      refine TC.loop hw57 (fun (y36, y39, x40) => fun a w => ∃ v33 : Value, ∃ hs34 : List (List Value), ∃ r38 : Nat, Mid 50 B [(7, .pointer (some ⟨b7, 0, none⟩)), (10, v33), (31, h1), (32, I (a1.length : Int)), (33, I x40)] (SN 41 4 nT41 v33 hs34 (y36) :: MF (fun k : ByteArray => .string k) (fun x : ByteArray × Int => .agg (cTsi x).toArray) r38 (y39) :: Bx b7 103 [.map (some r38)] :: L) a w) (fun (y52, y55) => fun a w => ∃ v49 : Value, ∃ hs50 : List (List Value), ∃ r54 : Nat, Mid 50 B [(10, v49)] (SN 41 4 nT41 v49 hs50 (y52) :: MF (fun k : ByteArray => .string k) (fun x : ByteArray × Int => .agg (cTsi x).toArray) r54 (y55) :: Bx b7 103 [.map (some r54)] :: L) a w) (fun (r0, r1, r2) => FRet Tryd.prog Tryd.f21 (fun e w' => ∃ v M, e = .returned v ∧ (∃ (qv1 : Value) (qhs2 : List (List Value)), v = .tuple #[qv1, .bool r1, I r2] ∧ M = (SN 41 4 nT41 qv1 qhs2 (r0) :: L)) ∧ St B M w')) ?_ ?_ ?_ ?_
      · rintro ⟨y36, y39, x40⟩ o56r hb58 a w ⟨v33, hs34, r38, he, hs⟩
        dsimp only [F21_L1] at hb58
        refine TC.use ?_ he hs
        refine TC.k ?_
        refine TC.region ?_
        refine TO.s rfl rfl rfl (StepS.cmp rfl rfl rfl) ?_
        refine TO.code ?_
        refine TC.k ?_
        refine TC.cond rfl (fun hc59 => ?_) (fun hc59 => ?_)
        · replace hb58 := cond_t hc59 hb58
          refine TC.skipk ?_
          refine TC.k ?_
          refine TC.block ?_
          refine TC.k ?_
          refine TC.region ?_
          obtain ⟨x60, hx61, hb58⟩ := bind_some hb58
          refine TO.s rfl rfl rfl (StepS.idx rfl rfl e1.tl.tl.tl ksliceB_34_45_4_true (idx_spec hx61).1 (idxm_lt hx61)) ?_
          refine TO.s rfl rfl rfl (StepS.ldE rfl e1.tl.tl.tl kaggB_45_4_true rfl (idxm hx61)) ?_
          refine TO.alloc kinfo_45_bind_zero_some_agg_I_0_string_ByteArray_empty_string_ByteArray_empty_I_0 rfl rfl fun b62 => ?_
          refine TO.stB (us := [I x60.1, .string x60.2.1, .string x60.2.2.1, I x60.2.2.2]) 0 [I x60.1, .string x60.2.1, .string x60.2.2.1, I x60.2.2.2] rfl rfl rfl ksizeB_45_4_true rfl rfl rfl (by simp [Value.oneCell']) rfl ?_
          refine TO.code ?_
          refine TC.k ?_
          refine TC.region ?_
          refine TO.s rfl rfl rfl (StepS.move rfl) ?_
          refine TO.s rfl rfl rfl (StepS.ldBA rfl (Ent.at 0 rfl) kaggB_45_4_true rfl rfl) ?_
          refine TO.ghost (fun _ s => Sat.front 2 rfl s) ?_
          refine TO.ghost (fun _ s => Sat.front 3 rfl s) ?_
          obtain ⟨⟨r63, r64⟩, hc65, hb58⟩ := bind_some hb58
          refine TO.callO kcallB_29_true rfl rfl rfl (fun _ st => C29 (a0 := y39)  hc65 st) ?_
          rintro _ _ ⟨r66, v68, rfl, rfl⟩
          refine TO.alloc kinfo_41_bind_zero_some_agg_I_0_string_ByteArray_empty_I_0_slice_none_0_0 rfl rfl fun b70 => ?_
          refine TO.pure (fun _ s => Rd.one (OwnS.rd (Ent.at 3 rfl)) s) fun oc71 => ?_
          refine TO.stB (us := [I r63.1, .string r63.2.1, I r63.2.2.1, v68]) 0 [I r63.1, .string r63.2.1, I r63.2.2.1, v68] rfl rfl rfl ksizeB_41_4_true rfl rfl rfl (by intro u hu; simp only [List.mem_cons, List.not_mem_nil, or_false] at hu; rcases hu with rfl | rfl | rfl | rfl <;> first | exact oc71.1 | rfl) rfl ?_
          refine TO.code ?_
          refine TC.k ?_
          refine TC.region ?_
          refine TO.s rfl rfl rfl (StepS.move rfl) ?_
          refine TO.s rfl rfl rfl (StepS.ldBA rfl (Ent.at 0 rfl) kaggB_41_4_true rfl rfl) ?_
          refine TO.litS (f := fun (_ : Unit) => [I r63.1, .string r63.2.1, I r63.2.2.1, v68]) [()] kelemB_23_41_4_56_true kinfo_41_bind_zero_some_agg_I_0_string_ByteArray_empty_I_0_slice_none_0_0 rfl rfl (fun _ => rfl) rfl rfl (by kernel_rfl) rfl fun v72 => ?_
          refine TO.pure (fun _ s => Rd.one (OwnS.rd (Ent.at 4 rfl)) s) fun oc74 => ?_
          refine TO.ghost (fun _ s => Sat.front 6 rfl s) ?_
          refine TO.ghost (fun _ s => Sat.front 5 rfl s) ?_
          obtain ⟨y75, hk76, hb58⟩ := bind_some hb58
          refine TO.appN (T := nT41) (z := (r63.1, r63.2.1, r63.2.2.1, r63.2.2.2)) [v68] rfl kelemB_23_41_4_56_true (by decide) rfl rfl (OwnS.rd (Ent.at 0 rfl)) hk76 (by intro u hu; have hu : u ∈ [I r63.1, .string r63.2.1, I r63.2.2.1, v68] := hu; simp only [List.mem_cons, List.not_mem_nil, or_false] at hu; rcases hu with rfl | rfl | rfl | rfl <;> first | rfl | exact oc74.1) rfl rfl fun v77 hs78 => ?_
          refine TO.ghost (fun _ s => Sat.erase 1 s) ?_
          refine TO.s rfl rfl rfl (StepS.assign rfl) ?_
          refine TO.code ?_
          refine TC.k ?_
          refine TC.region ?_
          refine TO.s rfl rfl rfl (StepS.fld rfl kfieldB_41_0_0_true) ?_
          refine TO.s rfl rfl rfl (StepS.ldB rfl (Ent.at 1 rfl) kscalB_27_true rfl) ?_
          refine TO.s rfl rfl rfl (StepS.cmp rfl rfl rfl) ?_
          refine TO.code ?_
          refine TC.cond rfl (fun hc79 => ?_) (fun hc79 => ?_)
          · replace hb58 := cond_t hc79 hb58
            refine TC.k ?_
            refine TC.region ?_
            refine TO.s rfl rfl rfl (StepS.move rfl) ?_
            refine TO.s rfl rfl rfl (StepS.assign rfl) ?_
            refine TO.s rfl rfl rfl (StepS.assign rfl) ?_
            refine TO.s rfl rfl rfl (StepS.assign rfl) ?_
            refine TO.code ?_
            cases hb58
            refine TC.ret fun a w e s => ?_
            refine FRet.mk3 (P := Tryd.prog) (fn := Tryd.f21) (t := 4) (u := 5) (s := 6) e rfl rfl rfl rfl ?_
            refine ⟨_, _, rfl, ⟨(v77), (hs78), rfl, rfl⟩, ?_⟩
            refine s.mono fun _ s => ?_
            replace s := Sat.front 0 rfl s
            replace s := Sat.erase 1 s
            replace s := Sat.erase 1 s
            replace s := Sat.erase 1 s
            replace s := Sat.erase 1 s
            exact s
          · replace hb58 := cond_f hc79 hb58
            refine TC.skipk ?_
            refine TC.region ?_
            refine TO.s rfl rfl rfl (StepS.ari rfl rfl rfl) ?_
            refine TO.s rfl rfl rfl (StepS.move rfl) ?_
            cases hb58
            refine TO.nil fun a w e s => ?_
            exact ⟨v77, hs78, r66, e.sub (lk_of_allIn ⟨rfl, rfl, rfl, rfl, rfl, trivial⟩), s.mono fun _ s => (by exact Sat.by [2, 3, 2] 3 2 (by kernel_rfl) s)⟩
        · replace hb58 := cond_f hc59 hb58
          cases hb58
          refine TC.exit rfl fun a w e s => ?_
          exact ⟨v33, hs34, r38, e.sub (lk_of_allIn ⟨rfl, trivial⟩), s⟩
      · exact fun a w e s => ⟨.slice none 0 0, [], r17, e.sub (lk_of_allIn ⟨rfl, rfl, rfl, rfl, rfl, trivial⟩), s.mono fun _ s => (by replace s := Sat.nilSN (e := 41) (sz := 4) (T := nT41) s; exact Sat.by [2, 2, 2] 3 0 (by kernel_rfl) s)⟩
      · rintro ⟨y52, y55⟩ rfl a w ⟨v49, hs50, r54, he, hs⟩
        dsimp only [Ctl.on] at hm
        refine TC.use ?_ he hs
        refine TC.k ?_
        refine TC.region ?_
        refine TO.s rfl rfl rfl (StepS.move rfl) ?_
        refine TO.s rfl rfl rfl (StepS.assign rfl) ?_
        refine TO.s rfl rfl rfl (StepS.assign rfl) ?_
        refine TO.s rfl rfl rfl (StepS.assign rfl) ?_
        refine TO.code ?_
        cases hm
        refine TC.ret fun a w e s => ?_
        refine FRet.mk3 (P := Tryd.prog) (fn := Tryd.f21) (t := 4) (u := 5) (s := 6) e rfl rfl rfl rfl ?_
        refine ⟨_, _, rfl, ⟨(v49), (hs50), rfl, rfl⟩, ?_⟩
        refine s.mono fun _ s => ?_
        replace s := Sat.front 0 rfl s
        replace s := Sat.erase 1 s
        replace s := Sat.erase 1 s
        exact s
      · rintro r rfl
        cases hm
        exact fun a w h => h
    · rintro r rfl
      exact fun a w h => h.elim

set_option maxRecDepth 100000 in
theorem C7 {B : World} {L : List HP} {a0 : List (Int × ByteArray × ByteArray × Int)} {a1 : List (Int × ByteArray × ByteArray × Int)} {h0 : Value} {h1 : Value} {r0 : Bool} (e0 : Ent L (Rd 4 h0 (a0.map cTissi))) (e1 : Ent L (Rd 4 h1 (a1.map cTissi))) (hm : F7 a0 a1 = some r0) {w : World} (st : St B L w) : Calls Tryd.prog 7 #[h0, h1] w (fun e w' => (e = .returned (.bool r0) ∧ St B (L) w')) := by
  refine calls_of (N := 92) (L := L) (args := [h0, h1]) Tryd.func7 rfl rfl rfl ?_ st
  dsimp only [F7] at hm
  refine TC.k ?_
  refine TC.region ?_
  refine TO.s rfl rfl rfl (StepS.assign rfl) ?_
  refine TO.code ?_
  refine TC.k ?_
  refine TC.region ?_
  refine TO.s rfl rfl rfl (StepS.move rfl) ?_
  refine TO.s rfl rfl rfl (StepS.move rfl) ?_
  obtain ⟨⟨r1, r2, r3⟩, hc4, hm⟩ := bind_some hm
  refine TO.callO kcallB_21_true rfl rfl rfl (fun _ st => C21 e0 e1 hc4 st) ?_
  rintro _ _ ⟨v5, hs6, rfl, rfl⟩
  refine TO.s rfl rfl rfl (StepS.move rfl) ?_
  refine TO.s rfl rfl rfl (StepS.extract rfl rfl) ?_
  refine TO.s rfl rfl rfl (StepS.extract rfl rfl) ?_
  refine TO.s rfl rfl rfl (StepS.extract rfl rfl) ?_
  refine TO.s rfl rfl rfl (StepS.assign rfl) ?_
  refine TO.s rfl rfl rfl (StepS.assign rfl) ?_
  refine TO.s rfl rfl rfl (StepS.assign rfl) ?_
  refine TO.code ?_
  refine TC.k ?_
  refine TC.k ?_
  refine TC.region ?_
  refine TO.s rfl rfl rfl (StepS.move rfl) ?_
  refine TO.s rfl rfl rfl (StepS.lenm rfl e0.tl ksliceB_34_45_4_true rfl) ?_
  refine TO.s rfl rfl rfl (StepS.cmp rfl rfl rfl) ?_
  refine TO.s rfl rfl rfl (StepS.move rfl) ?_
  refine TO.mid1 4 29 (.bool ((decide ((a0.length : Int) > 60)) || (decide ((a1.length : Int) > 60)))) ?_ ?_
  · refine bcase ((decide ((a0.length : Int) > 60))) (fun hb8 => ?_) (fun hb8 => ?_)
    · refine TO.skip rfl rfl rfl (skipT hb8) rfl rfl ?_
      refine TO.skip rfl rfl rfl (skipT hb8) rfl rfl ?_
      refine TO.skip rfl rfl rfl (skipT hb8) rfl rfl ?_
      refine TO.s rfl rfl rfl (StepS.pickT rfl hb8 rfl) ?_
      exact TO.up1 4 0 rfl rfl (by rw [hb8]; rfl) rfl
    · refine TO.sw rfl rfl rfl hb8 rfl rfl (StepS.move rfl) ?_
      refine TO.sw rfl rfl rfl hb8 rfl rfl (StepS.lenm rfl e1.tl ksliceB_34_45_4_true rfl) ?_
      refine TO.sw rfl rfl rfl hb8 rfl rfl (StepS.cmp rfl rfl rfl) ?_
      refine TO.s rfl rfl rfl (StepS.pickF rfl hb8 rfl) ?_
      exact TO.up1 4 0 rfl rfl (by rw [hb8]; rfl) rfl
  refine TO.s rfl rfl rfl (StepS.move rfl) ?_
  refine TO.mid1 7 37 (.bool (((decide ((a0.length : Int) > 60)) || (decide ((a1.length : Int) > 60))) || (decide ((w64 ((a0.length : Int) + (a1.length : Int))) > 60)))) ?_ ?_
  · refine bcase (((decide ((a0.length : Int) > 60)) || (decide ((a1.length : Int) > 60)))) (fun hb9 => ?_) (fun hb9 => ?_)
    · refine TO.skip rfl rfl rfl (skipT hb9) rfl rfl ?_
      refine TO.skip rfl rfl rfl (skipT hb9) rfl rfl ?_
      refine TO.skip rfl rfl rfl (skipT hb9) rfl rfl ?_
      refine TO.skip rfl rfl rfl (skipT hb9) rfl rfl ?_
      refine TO.skip rfl rfl rfl (skipT hb9) rfl rfl ?_
      refine TO.skip rfl rfl rfl (skipT hb9) rfl rfl ?_
      refine TO.s rfl rfl rfl (StepS.pickT rfl hb9 rfl) ?_
      exact TO.up1 7 0 rfl rfl (by rw [hb9]; rfl) rfl
    · refine TO.sw rfl rfl rfl hb9 rfl rfl (StepS.move rfl) ?_
      refine TO.sw rfl rfl rfl hb9 rfl rfl (StepS.lenm rfl e0.tl ksliceB_34_45_4_true rfl) ?_
      refine TO.sw rfl rfl rfl hb9 rfl rfl (StepS.move rfl) ?_
      refine TO.sw rfl rfl rfl hb9 rfl rfl (StepS.lenm rfl e1.tl ksliceB_34_45_4_true rfl) ?_
      refine TO.sw rfl rfl rfl hb9 rfl rfl (StepS.ari rfl rfl rfl) ?_
      refine TO.sw rfl rfl rfl hb9 rfl rfl (StepS.cmp rfl rfl rfl) ?_
      refine TO.s rfl rfl rfl (StepS.pickF rfl hb9 rfl) ?_
      exact TO.up1 7 0 rfl rfl (by rw [hb9]; rfl) rfl
  refine TO.code ?_
  refine TC.cond rfl (fun hc10 => ?_) (fun hc10 => ?_)
  · replace hm := cond_t hc10 hm
    refine TC.k ?_
    refine TC.region ?_
    refine TO.s rfl rfl rfl (StepS.move rfl) ?_
    refine TO.s rfl rfl rfl (StepS.cmp rfl rfl rfl) ?_
    refine TO.s rfl rfl rfl (StepS.move rfl) ?_
    refine TO.mid1 4 44 (.bool ((r3 == 1) && ((r1.length : Int) == 0))) ?_ ?_
    · refine bcase ((r3 == 1)) (fun hb11 => ?_) (fun hb11 => ?_)
      · refine TO.sw rfl rfl rfl hb11 rfl rfl (StepS.move rfl) ?_
        refine TO.sw rfl rfl rfl hb11 rfl rfl (StepS.lenN rfl (Ent.at 0 rfl) ksliceB_23_41_4_true rfl) ?_
        refine TO.sw rfl rfl rfl hb11 rfl rfl (StepS.cmp rfl rfl rfl) ?_
        refine TO.s rfl rfl rfl (StepS.pickT rfl hb11 rfl) ?_
        exact TO.up1 4 0 rfl rfl (by rw [hb11]; rfl) rfl
      · refine TO.skip rfl rfl rfl (skipF hb11) rfl rfl ?_
        refine TO.skip rfl rfl rfl (skipF hb11) rfl rfl ?_
        refine TO.skip rfl rfl rfl (skipF hb11) rfl rfl ?_
        refine TO.s rfl rfl rfl (StepS.pickF rfl hb11 rfl) ?_
        exact TO.up1 4 0 rfl rfl (by rw [hb11]; rfl) rfl
    refine TO.s rfl rfl rfl (StepS.move rfl) ?_
    refine TO.mid1 3 48 (.bool (((r3 == 1) && ((r1.length : Int) == 0)) && (!r2))) ?_ ?_
    · refine bcase (((r3 == 1) && ((r1.length : Int) == 0))) (fun hb12 => ?_) (fun hb12 => ?_)
      · refine TO.sw rfl rfl rfl hb12 rfl rfl (StepS.move rfl) ?_
        refine TO.sw rfl rfl rfl hb12 rfl rfl (StepS.not rfl) ?_
        refine TO.s rfl rfl rfl (StepS.pickT rfl hb12 rfl) ?_
        exact TO.up1 3 0 rfl rfl (by rw [hb12]; rfl) rfl
      · refine TO.skip rfl rfl rfl (skipF hb12) rfl rfl ?_
        refine TO.skip rfl rfl rfl (skipF hb12) rfl rfl ?_
        refine TO.s rfl rfl rfl (StepS.pickF rfl hb12 rfl) ?_
        exact TO.up1 3 0 rfl rfl (by rw [hb12]; rfl) rfl
    refine TO.s rfl rfl rfl (StepS.assign rfl) ?_
    refine TO.code ?_
    cases hm
    refine TC.ret fun a w e s => ?_
    refine FRet.mk1 (P := Tryd.prog) (fn := Tryd.f7) (t := 4) e rfl rfl ?_
    exact ⟨rfl, s.mono fun _ => Sat.dropN 1⟩
  · replace hm := cond_f hc10 hm
    refine TC.skipk ?_
    refine TC.k ?_
    refine TC.region ?_
    obtain ⟨r13, hc14, hm⟩ := bind_some hm
    refine TO.callO kcallB_20_true rfl rfl rfl (fun _ st => C20  hc14 st) ?_
    rintro v15 _ ⟨_, rfl, rfl⟩
    refine TO.s rfl rfl rfl (StepS.move rfl) ?_
    obtain ⟨⟨r17, r18⟩, hc19, hm⟩ := bind_some hm
    refine TO.callO kcallB_19_true rfl rfl rfl (fun _ st => C19 e0.tl hc19 st) ?_
    rintro _ _ ⟨v20, v22, hs23, rfl, rfl⟩
    refine TO.s rfl rfl rfl (StepS.move rfl) ?_
    refine TO.s rfl rfl rfl (StepS.extract rfl rfl) ?_
    refine TO.s rfl rfl rfl (StepS.extract rfl rfl) ?_
    refine TO.s rfl rfl rfl (StepS.assign rfl) ?_
    refine TO.s rfl rfl rfl (StepS.assign rfl) ?_
    refine TO.code ?_
    refine TC.k ?_
    refine TC.region ?_
    refine TO.s rfl rfl rfl (StepS.move rfl) ?_
    refine TO.s rfl rfl rfl (StepS.move rfl) ?_
    obtain ⟨⟨r25, r26⟩, hc27, hm⟩ := bind_some hm
    refine TO.callO kcallB_19_true rfl rfl rfl (fun _ st => C19 e1.tl.tl hc27 st) ?_
    rintro _ _ ⟨v28, v30, hs31, rfl, rfl⟩
    refine TO.s rfl rfl rfl (StepS.move rfl) ?_
    refine TO.s rfl rfl rfl (StepS.extract rfl rfl) ?_
    refine TO.s rfl rfl rfl (StepS.extract rfl rfl) ?_
    refine TO.s rfl rfl rfl (StepS.assign rfl) ?_
    refine TO.s rfl rfl rfl (StepS.assign rfl) ?_
    refine TO.code ?_
    refine TC.k ?_
    refine TC.region ?_
    refine TO.s rfl rfl rfl (StepS.move rfl) ?_
    refine TO.s rfl rfl rfl (StepS.lenN rfl (Ent.at 1 rfl) ksliceB_23_41_4_true rfl) ?_
    refine TO.s rfl rfl rfl (StepS.assign rfl) ?_
    refine TO.code ?_
    refine TC.k ?_
    refine TC.region ?_
    refine TO.s rfl rfl rfl (StepS.assign rfl) ?_
    refine TO.code ?_
    refine TC.k ?_
    refine TC.k ?_
    refine TC.region ?_
    refine TO.s rfl rfl rfl (StepS.move rfl) ?_
    refine TO.s rfl rfl rfl (StepS.lenN rfl (Ent.at 1 rfl) ksliceB_23_41_4_true rfl) ?_
    refine TO.s rfl rfl rfl (StepS.ari rfl rfl rfl) ?_
    refine TO.s rfl rfl rfl (StepS.assign rfl) ?_
    refine TO.code ?_
    obtain ⟨o41, hw42, hm⟩ := bind_some hm
    refine TC.loop hw42 (fun (x33, b34, x35) => fun a w => Mid 92 B [(5, v5), (6, .bool r2), (7, I r3), (11, v30), (12, I x33), (13, .bool b34), (14, I x35)] (OwnS 84 3 v28 (r25.map cTssi) :: SN 41 4 nT41 v30 hs31 (r26) :: SN 41 4 nT41 v22 hs23 (r18) :: SN 41 4 nT41 v5 hs6 (r1) :: L) a w) (fun (x39, b40) => fun a w => Mid 92 B [(5, v5), (6, .bool r2), (7, I r3), (11, v30), (12, I x39), (13, .bool b40)] (OwnS 84 3 v28 (r25.map cTssi) :: SN 41 4 nT41 v30 hs31 (r26) :: SN 41 4 nT41 v22 hs23 (r18) :: SN 41 4 nT41 v5 hs6 (r1) :: L) a w) (fun (_ : Unit) _ _ => False) ?_ ?_ ?_ ?_
    · rintro ⟨x33, b34, x35⟩ o41r hb43 a w ⟨he, hs⟩
      dsimp only [F7_L0] at hb43
      refine TC.use ?_ he hs
      refine TC.k ?_
      refine TC.k ?_
      refine TC.region ?_
      refine TO.s rfl rfl rfl (StepS.move rfl) ?_
      refine TO.s rfl rfl rfl (StepS.cmp rfl rfl rfl) ?_
      refine TO.code ?_
      refine TC.cond rfl (fun hc44 => ?_) (fun hc44 => ?_)
      · replace hb43 := cond_t hc44 hb43
        refine TC.skipk ?_
        refine TC.k ?_
        obtain ⟨⟨x45, b46⟩, hj47, hb43⟩ := bind_some hb43
        first | refine TC.cutM (fun a w => Mid 92 B [(5, v5), (6, .bool r2), (7, I r3), (11, v30), (12, I x45), (13, .bool b46), (14, I x35)] (OwnS 84 3 v28 (r25.map cTssi) :: SN 41 4 nT41 v30 hs31 (r26) :: SN 41 4 nT41 v22 hs23 (r18) :: SN 41 4 nT41 v5 hs6 (r1) :: L) a w) ?_ ?_ | refine TC.cutX (fun a w => Mid 92 B [(5, v5), (6, .bool r2), (7, I r3), (11, v30), (12, I x45), (13, .bool b46), (14, I x35)] (OwnS 84 3 v28 (r25.map cTssi) :: SN 41 4 nT41 v30 hs31 (r26) :: SN 41 4 nT41 v22 hs23 (r18) :: SN 41 4 nT41 v5 hs6 (r1) :: L) a w) ?_ ?_
        · refine TC.block ?_
          refine TC.k ?_
          refine TC.region ?_
          refine TO.s rfl rfl rfl (StepS.move rfl) ?_
          refine TO.s rfl rfl rfl (StepS.move rfl) ?_
          obtain ⟨x48, hx49, hj47⟩ := bind_some hj47
          refine TO.s rfl rfl rfl (StepS.idxN rfl rfl (Ent.at 1 rfl) ksliceB_23_41_4_true hx49) ?_
          refine TO.s rfl rfl rfl (StepS.ptrf rfl kfieldB_41_0_0_true) ?_
          refine TO.s rfl rfl rfl (StepS.ldN (j := 0) rfl (Ent.at 1 rfl) kscalB_27_true hx49 rfl rfl) ?_
          refine TO.s rfl rfl rfl (StepS.cmp rfl rfl rfl) ?_
          refine TO.code ?_
          refine TC.cond rfl (fun hc50 => ?_) (fun hc50 => ?_)
          · replace hj47 := cond_t hc50 hj47
            refine TC.k ?_
            refine TC.region ?_
            refine TO.s rfl rfl rfl (StepS.move rfl) ?_
            refine TO.s rfl rfl rfl (StepS.ari rfl rfl rfl) ?_
            refine TO.s rfl rfl rfl (StepS.assign rfl) ?_
            refine TO.code ?_
            refine TC.region ?_
            refine TO.s rfl rfl rfl (StepS.assign rfl) ?_
            cases hj47
            refine TO.nil fun a w e s => ?_
            exact ⟨e.sub (lk_of_allIn ⟨rfl, rfl, rfl, rfl, rfl, rfl, rfl, trivial⟩), s⟩
          · replace hj47 := cond_f hc50 hj47
            cases hj47
            refine TC.skip fun a w e s => ?_
            exact ⟨e.sub (lk_of_allIn ⟨rfl, rfl, rfl, rfl, rfl, rfl, rfl, trivial⟩), s⟩
        · intro a w ⟨he, hs⟩
          refine TC.use ?_ he hs
          refine TC.region ?_
          refine TO.s rfl rfl rfl (StepS.move rfl) ?_
          refine TO.s rfl rfl rfl (StepS.ari rfl rfl rfl) ?_
          refine TO.s rfl rfl rfl (StepS.assign rfl) ?_
          cases hb43
          refine TO.nil fun a w e s => ?_
          exact ⟨e.sub (lk_of_allIn ⟨rfl, rfl, rfl, rfl, rfl, rfl, rfl, trivial⟩), s⟩
      · replace hb43 := cond_f hc44 hb43
        cases hb43
        refine TC.exit rfl fun a w e s => ?_
        exact ⟨e.sub (lk_of_allIn ⟨rfl, rfl, rfl, rfl, rfl, rfl, trivial⟩), s⟩
    · exact fun a w e s => ⟨e.sub (lk_of_allIn ⟨rfl, rfl, rfl, rfl, rfl, rfl, rfl, trivial⟩), s⟩
    · rintro ⟨x39, b40⟩ rfl a w ⟨he, hs⟩
      dsimp only [Ctl.on] at hm
      refine TC.use ?_ he hs
      refine TC.k ?_
      refine TC.region ?_
      refine TO.s rfl rfl rfl (StepS.move rfl) ?_
      refine TO.s rfl rfl rfl (StepS.cmp rfl rfl rfl) ?_
      refine TO.s rfl rfl rfl (StepS.move rfl) ?_
      refine TO.mid1 4 84 (.bool ((r3 == 0) && (r2 == b40))) ?_ ?_
      · refine bcase ((r3 == 0)) (fun hb51 => ?_) (fun hb51 => ?_)
        · refine TO.sw rfl rfl rfl hb51 rfl rfl (StepS.move rfl) ?_
          refine TO.sw rfl rfl rfl hb51 rfl rfl (StepS.move rfl) ?_
          refine TO.sw rfl rfl rfl hb51 rfl rfl (StepS.eqB kunderlying_4_some_bool rfl rfl) ?_
          refine TO.s rfl rfl rfl (StepS.pickT rfl hb51 rfl) ?_
          exact TO.up1 4 0 rfl rfl (by rw [hb51]; rfl) rfl
        · refine TO.skip rfl rfl rfl (skipF hb51) rfl rfl ?_
          refine TO.skip rfl rfl rfl (skipF hb51) rfl rfl ?_
          refine TO.skip rfl rfl rfl (skipF hb51) rfl rfl ?_
          refine TO.s rfl rfl rfl (StepS.pickF rfl hb51 rfl) ?_
          exact TO.up1 4 0 rfl rfl (by rw [hb51]; rfl) rfl
      refine TO.s rfl rfl rfl (StepS.move rfl) ?_
      obtain ⟨b53, hj54, hm⟩ := bind_some hm
      refine TO.mid1 6 91 (.bool b53) ?_ ?_
      · refine bcase (((r3 == 0) && (r2 == b40))) (fun hb52 => ?_) (fun hb52 => ?_)
        · replace hj54 := cond_t hb52 hj54
          refine TO.sw rfl rfl rfl hb52 rfl rfl (StepS.move rfl) ?_
          refine TO.sw rfl rfl rfl hb52 rfl rfl (StepS.move rfl) ?_
          refine TO.sw rfl rfl rfl hb52 rfl rfl (StepS.move rfl) ?_
          obtain ⟨y55, hs56, hj54⟩ := bind_some hj54
          obtain ⟨hs56a, hs56b, hs56c, _⟩ := slI_spec hs56
          refine TO.sw rfl rfl rfl hb52 rfl rfl (StepS.slcN rfl (Ent.at 1 rfl) ksliceB_23_41_4_true rfl (fun _ => rfl) hs56) ?_
          obtain ⟨r57, hc58, hj54⟩ := bind_some hj54
          refine TO.qw rfl rfl rfl hb52 rfl rfl (StepQ.call kcallB_13_true rfl rfl (fun _ st => C13 (Ent.at 3 rfl) (SN.sub (Ent.at 1 rfl) hs56) hc58 st)) ?_
          cases hj54
          refine TO.s rfl rfl rfl (StepS.pickT rfl hb52 rfl) ?_
          exact TO.up1 6 0 rfl rfl rfl rfl
        · replace hj54 := cond_f hb52 hj54
          cases hj54
          refine TO.skip rfl rfl rfl (skipF hb52) rfl rfl ?_
          refine TO.skip rfl rfl rfl (skipF hb52) rfl rfl ?_
          refine TO.skip rfl rfl rfl (skipF hb52) rfl rfl ?_
          refine TO.skip rfl rfl rfl (skipF hb52) rfl rfl ?_
          refine TO.skip rfl rfl rfl (skipF hb52) rfl rfl ?_
          refine TO.s rfl rfl rfl (StepS.pickF rfl hb52 rfl) ?_
          exact TO.up1 6 0 rfl rfl rfl rfl
      refine TO.s rfl rfl rfl (StepS.assign rfl) ?_
      refine TO.code ?_
      cases hm
      refine TC.ret fun a w e s => ?_
      refine FRet.mk1 (P := Tryd.prog) (fn := Tryd.f7) (t := 4) e rfl rfl ?_
      exact ⟨rfl, s.mono fun _ => Sat.dropN 4⟩
    · rintro r rfl
      exact fun a w h => h.elim
end Go.Proofs.YtadfgohglcglcaaDoor
