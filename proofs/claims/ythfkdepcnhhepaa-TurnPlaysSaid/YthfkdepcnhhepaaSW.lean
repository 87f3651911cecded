/-
  The walks: each Go function returns what its model says. Written by a program (gen.py).
-/
import Derived.Test.YthfkdepcnhhepaaProg
import Derived.KernelRfl
import Derived.Test.YthfkdepcnhhepaaKW
import Derived.Test.YthfkdepcnhhepaaTW
import Derived.Test.YthfkdepcnhhepaaSM
namespace Go.Proofs.Ythfkdepcnhhepaa
open Go Go.Bk
set_option linter.unusedVariables false
set_option linter.unnecessarySimpa false
theorem kscalB_50_true : scalB Try.prog 50 = true := by kernel_rfl
theorem kscalB_115_true : scalB Try.prog 115 = true := by kernel_rfl
theorem ksliceB_115_4_1_true : sliceB Try.prog 115 4 1 = true := by kernel_rfl
theorem ksizeB_22_1_true : sizeB Try.prog 22 1 = true := by kernel_rfl
theorem kelemB_115_4_1_1_true : elemB Try.prog 115 4 1 1 = true := by kernel_rfl
theorem kinfo_4_bind_zero_some_bool_false : (Try.prog.info? 4).bind (·.zero) = some (.bool false) := by kernel_rfl
theorem kinfo_115_bind_zero_some_slice_none_0_0 : (Try.prog.info? 115).bind (·.zero) = some (.slice none 0 0) := by kernel_rfl
theorem ksizeB_115_1_true : sizeB Try.prog 115 1 = true := by kernel_rfl
theorem kelemB_50_22_1_24_true : elemB Try.prog 50 22 1 24 = true := by kernel_rfl
theorem kinfo_50_bind_zero_some_slice_none_0_0 : (Try.prog.info? 50).bind (·.zero) = some (.slice none 0 0) := by kernel_rfl
theorem ksizeB_50_1_true : sizeB Try.prog 50 1 = true := by kernel_rfl
theorem kcallB_61_true : callB Try.prog 61 = true := by kernel_rfl
theorem kcallB_57_true : callB Try.prog 57 = true := by kernel_rfl
theorem kcallB_73_true : callB Try.prog 73 = true := by kernel_rfl
theorem kcallB_66_true : callB Try.prog 66 = true := by kernel_rfl
theorem kfieldB_138_2_2_true : fieldB Try.prog 138 2 2 = true := by kernel_rfl
theorem kcallB_62_true : callB Try.prog 62 = true := by kernel_rfl
theorem kintB_3_i64_true : intB Try.prog 3 .i64 = true := by kernel_rfl
theorem kintB_108_u64_true : intB Try.prog 108 .u64 = true := by kernel_rfl
theorem kcallB_18_true : callB Try.prog 18 = true := by kernel_rfl
theorem kcallB_38_true : callB Try.prog 38 = true := by kernel_rfl
theorem kcallB_21_true : callB Try.prog 21 = true := by kernel_rfl
theorem kcallB_39_true : callB Try.prog 39 = true := by kernel_rfl
theorem kcallB_40_true : callB Try.prog 40 = true := by kernel_rfl

set_option maxRecDepth 100000 in
theorem C73 {B : World} {L : List HP} {a0 : Int} {a1 : List Int} {a2 : List (List Int)} {a3 : Int} {a4 : List Bool} {b1_ : Nat} {h1_1 : Value} {b2_ : Nat} {h2_1 : Value} {h2_2 : List Value} {b3_ : Nat} {b4_ : Nat} {h4_1 : Value} {s0 : List Int} {s1 : List (List Int)} {s2 : List Bool} (g3 : Ent L (Bx b3_ 3 [I a3])) (hm : F73 a0 a1 a2 a3 a4 = some (s0, s1, s2)) {w : World} (st : St B (Bx b1_ 22 [h1_1] :: OwnS 3 1 h1_1 (a1.map cI) :: Bx b2_ 50 [h2_1] :: SS 22 3 1 cI h2_1 h2_2 (a2) :: Bx b4_ 115 [h4_1] :: OwnS 4 1 h4_1 (a4.map cB) :: L) w) : Calls Try.prog 73 #[I a0, .pointer (some ⟨b1_, 0, none⟩), .pointer (some ⟨b2_, 0, none⟩), .pointer (some ⟨b3_, 0, none⟩), .pointer (some ⟨b4_, 0, none⟩)] w (fun e w' => ∃ v M, e = .returned v ∧ (∃ (qv1 : Value) (qv2 : Value) (qhs3 : List Value) (qv4 : Value), v = .tuple #[] ∧ M = (Bx b1_ 22 [qv1] :: OwnS 3 1 qv1 (s0.map cI) :: Bx b2_ 50 [qv2] :: SS 22 3 1 cI qv2 qhs3 (s1) :: Bx b4_ 115 [qv4] :: OwnS 4 1 qv4 (s2.map cB) :: L)) ∧ St B M w') := by
  refine calls_of (N := 27) (L := (Bx b1_ 22 [h1_1] :: OwnS 3 1 h1_1 (a1.map cI) :: Bx b2_ 50 [h2_1] :: SS 22 3 1 cI h2_1 h2_2 (a2) :: Bx b4_ 115 [h4_1] :: OwnS 4 1 h4_1 (a4.map cB) :: L)) (args := [I a0, .pointer (some ⟨b1_, 0, none⟩), .pointer (some ⟨b2_, 0, none⟩), .pointer (some ⟨b3_, 0, none⟩), .pointer (some ⟨b4_, 0, none⟩)]) Try.func73 rfl rfl rfl ?_ st
  dsimp only [F73] at hm
  refine TC.k ?_
  refine TC.region_still kfollows_mixedOrders_true (by kernel_rfl) ?_
  refine TS.s rfl rfl rfl (StepS.ldB rfl (Ent.at 0 rfl) kscalB_22_true rfl) ?_
  refine TS.s rfl rfl rfl (StepS.move rfl) ?_
  obtain ⟨x7, hx8, hm⟩ := bind_some hm
  refine TS.s rfl rfl rfl (StepS.idx rfl rfl (OwnS.rd (Ent.at 1 rfl)) ksliceB_22_3_1_true (idx_spec hx8).1 (idxm_lt hx8)) ?_
  refine TS.s rfl rfl rfl (StepS.ld0 rfl (OwnS.rd (Ent.at 1 rfl)) kscalB_3_true rfl (idxm hx8) rfl) ?_
  refine TS.s rfl rfl rfl (StepS.cmp rfl rfl rfl) ?_
  refine TS.s rfl rfl rfl (StepS.move rfl) ?_
  obtain ⟨b10, hj11, hm⟩ := bind_some hm
  refine TS.mid1 9 20 (.bool b10) ?_ ?_
  · refine bcase ((decide (x7 > 0))) (fun hb9 => ?_) (fun hb9 => ?_)
    · replace hj11 := cond_t hb9 hj11
      refine TS.sw rfl rfl rfl hb9 rfl rfl (StepS.ldB rfl (Ent.at 2 rfl) kscalB_50_true rfl) ?_
      refine TS.sw rfl rfl rfl hb9 rfl rfl (StepS.move rfl) ?_
      obtain ⟨x12, hx13, hj11⟩ := bind_some hj11
      refine TS.sw rfl rfl rfl hb9 rfl rfl (StepS.idxRR rfl rfl (SS.rr (Ent.at 3 rfl)) ksliceB_50_22_1_true hx13) ?_
      refine TS.sw rfl rfl rfl hb9 rfl rfl (StepS.ldRR rfl (SS.rr (Ent.at 3 rfl)) kscalB_22_true hx13) ?_
      refine TS.sw rfl rfl rfl hb9 rfl rfl (StepS.lenm rfl (RR.row (SS.rr (Ent.at 3 rfl)) hx13) ksliceB_22_3_1_true rfl) ?_
      refine TS.sw rfl rfl rfl hb9 rfl rfl (StepS.ldB rfl g3.tl.tl.tl.tl.tl.tl kscalB_3_true rfl) ?_
      refine TS.sw rfl rfl rfl hb9 rfl rfl (StepS.ari rfl rfl rfl) ?_
      refine TS.sw rfl rfl rfl hb9 rfl rfl (StepS.cmp rfl rfl rfl) ?_
      cases hj11
      refine TS.s rfl rfl rfl (StepS.pickT rfl hb9 rfl) ?_
      exact TS.up1 9 0 rfl rfl rfl rfl
    · replace hj11 := cond_f hb9 hj11
      cases hj11
      refine TS.skip rfl rfl rfl (skipF hb9) rfl rfl ?_
      refine TS.skip rfl rfl rfl (skipF hb9) rfl rfl ?_
      refine TS.skip rfl rfl rfl (skipF hb9) rfl rfl ?_
      refine TS.skip rfl rfl rfl (skipF hb9) rfl rfl ?_
      refine TS.skip rfl rfl rfl (skipF hb9) rfl rfl ?_
      refine TS.skip rfl rfl rfl (skipF hb9) rfl rfl ?_
      refine TS.skip rfl rfl rfl (skipF hb9) rfl rfl ?_
      refine TS.skip rfl rfl rfl (skipF hb9) rfl rfl ?_
      refine TS.s rfl rfl rfl (StepS.pickF rfl hb9 rfl) ?_
      exact TS.up1 9 0 rfl rfl rfl rfl
  refine TS.code ?_
  refine TC.cond rfl (fun hc15 => ?_) (fun hc15 => ?_)
  · replace hm := cond_t hc15 hm
    refine TC.k ?_
    refine TC.region ?_
    refine TO.s rfl rfl rfl (StepS.ldB rfl (Ent.at 4 rfl) kscalB_115_true rfl) ?_
    refine TO.s rfl rfl rfl (StepS.move rfl) ?_
    obtain ⟨x16, hx17, hm⟩ := bind_some hm
    refine TO.s rfl rfl rfl (StepS.idx rfl rfl (OwnS.rd (Ent.at 5 rfl)) ksliceB_115_4_1_true (idx_spec hx17).1 (idxm_lt hx17)) ?_
    refine TO.stO (i := a0.toNat) (off := 0) (us := [.bool true]) 5 true rfl rfl rfl ksizeB_4_1_true rfl rfl rfl (idx_spec hx17).2 rfl (by simp [Value.oneCell']) rfl ?_
    refine TO.code ?_
    refine TC.region ?_
    refine TO.s rfl rfl rfl (StepS.ldB rfl (Ent.at 0 rfl) kscalB_22_true rfl) ?_
    refine TO.s rfl rfl rfl (StepS.move rfl) ?_
    obtain ⟨x18, hx19, hm⟩ := bind_some hm
    refine TO.s rfl rfl rfl (StepS.idx rfl rfl (OwnS.rd (Ent.at 1 rfl)) ksliceB_22_3_1_true (idx_spec hx19).1 (idxm_lt hx19)) ?_
    refine TO.stO (i := a0.toNat) (off := 0) (us := [I 0]) 1 0 rfl rfl rfl ksizeB_3_1_true rfl rfl rfl (idx_spec hx19).2 rfl (by simp [Value.oneCell']) rfl ?_
    cases hm
    refine TO.nil fun a w e s => ?_
    refine FRet.mk0 (P := Try.prog) (fn := Try.f73) e rfl ?_
    refine ⟨_, _, rfl, ⟨(h1_1), (h2_1), (h2_2), (h4_1), rfl, rfl⟩, ?_⟩
    refine s.mono fun _ s => ?_
    replace s := Sat.front 5 rfl s
    replace s := Sat.front 5 rfl s
    replace s := Sat.front 5 rfl s
    replace s := Sat.front 5 rfl s
    replace s := Sat.front 5 rfl s
    replace s := Sat.front 5 rfl s
    exact s
  · replace hm := cond_f hc15 hm
    cases hm
    refine TC.skip fun a w e s => ?_
    refine FRet.mk0 (P := Try.prog) (fn := Try.f73) e rfl ?_
    refine ⟨_, _, rfl, ⟨(h1_1), (h2_1), (h2_2), (h4_1), rfl, rfl⟩, ?_⟩
    refine s.mono fun _ s => ?_
    replace s := Sat.front 5 rfl s
    replace s := Sat.front 5 rfl s
    replace s := Sat.front 5 rfl s
    replace s := Sat.front 5 rfl s
    replace s := Sat.front 5 rfl s
    replace s := Sat.front 5 rfl s
    exact s

set_option maxHeartbeats 4000000 in
set_option maxRecDepth 100000 in
theorem C39 {B : World} {L : List HP} {a0 : Int} {a1 : List (Int × Int × Int × Int)} {h1 : Value} {r0 : (List Int) × (BitVec 32) × (BitVec 32) × Int} (e1 : Ent L (Rd 4 h1 (a1.map cTiiii))) (hm : F39 a0 a1 = some r0) {w : World} (st : St B L w) : Calls Try.prog 39 #[I a0, h1] w (fun e w' => ∃ v M, e = .returned v ∧ (∃ (qv1 : Value), v = .agg #[qv1, U r0.2.1, U r0.2.2.1, I r0.2.2.2] ∧ M = (OwnS 28 1 qv1 (r0.1.map cI) :: L)) ∧ St B M w') := by
  refine calls_of (N := 301) (L := L) (args := [I a0, h1]) Try.func39 rfl rfl rfl ?_ st
  dsimp only [F39] at hm
  refine TC.k ?_
  refine TC.region ?_
  refine TO.box (cs := [I a0]) rfl rfl rfl fun b2 => ?_
  refine TO.alloc kinfo_80_bind_zero_some_agg_slice_none_0_0_U_0_U_0_I_0 rfl rfl fun b3 => ?_
  refine TO.code ?_
  refine TC.k ?_
  refine TC.region ?_
  refine TO.s rfl rfl rfl (StepS.build (cs := [.slice none 0 0, U 0, U 0, I 0]) rfl (by kernel_rfl)) ?_
  refine TO.alloc kinfo_80_bind_zero_some_agg_slice_none_0_0_U_0_U_0_I_0 rfl rfl fun b4 => ?_
  refine TO.stB (us := [.slice none 0 0, U 0, U 0, I 0]) 0 [.slice none 0 0, U 0, U 0, I 0] rfl rfl rfl ksizeB_80_4_true rfl rfl rfl (by simp [Value.oneCell']) rfl ?_
  refine TO.code ?_
  refine TC.k ?_
  refine TC.region ?_
  refine TO.s rfl rfl rfl (StepS.ldB rfl (Ent.at 2 rfl) kscalB_3_true rfl) ?_
  obtain ⟨y5, hk6, hm⟩ := bind_some hm
  refine TO.mkS (f := cI) (za := 0) kelemB_22_3_1_8_true kinfo_3_bind_zero_some_I_0 rfl (by decide) rfl rfl hk6 rfl fun v7 => ?_
  refine TO.s rfl rfl rfl (StepS.assign rfl) ?_
  refine TO.code ?_
  refine TC.k ?_
  refine TC.region ?_
  refine TO.s rfl rfl rfl (StepS.ldB rfl (Ent.at 3 rfl) kscalB_3_true rfl) ?_
  obtain ⟨y9, hk10, hm⟩ := bind_some hm
  refine TO.mkS (f := cI) (za := 0) kelemB_22_3_1_8_true kinfo_3_bind_zero_some_I_0 rfl (by decide) rfl rfl hk10 rfl fun v11 => ?_
  refine TO.alloc kinfo_22_bind_zero_some_slice_none_0_0 rfl rfl fun b13 => ?_
  refine TO.pure (fun _ s => Rd.one (OwnS.rd (Ent.at 1 rfl)) s) fun oc14 => ?_
  refine TO.stB (us := [v11]) 0 [v11] rfl rfl rfl ksizeB_22_1_true oc14.2 rfl rfl (by intro u hu; simp only [List.mem_cons, List.not_mem_nil, or_false] at hu; rcases hu with rfl <;> first | exact oc14.1 | rfl) rfl ?_
  refine TO.code ?_
  refine TC.k ?_
  refine TC.region ?_
  refine TO.s rfl rfl rfl (StepS.ldB rfl (Ent.at 5 rfl) kscalB_3_true rfl) ?_
  obtain ⟨y15, hk16, hm⟩ := bind_some hm
  refine TO.mkS (f := cB) (za := false) kelemB_115_4_1_1_true kinfo_4_bind_zero_some_bool_false rfl (by decide) rfl rfl hk16 rfl fun v17 => ?_
  refine TO.alloc kinfo_115_bind_zero_some_slice_none_0_0 rfl rfl fun b19 => ?_
  refine TO.pure (fun _ s => Rd.one (OwnS.rd (Ent.at 1 rfl)) s) fun oc20 => ?_
  refine TO.stB (us := [v17]) 0 [v17] rfl rfl rfl ksizeB_115_1_true oc20.2 rfl rfl (by intro u hu; simp only [List.mem_cons, List.not_mem_nil, or_false] at hu; rcases hu with rfl <;> first | exact oc20.1 | rfl) rfl ?_
  refine TO.code ?_
  refine TC.k ?_
  refine TC.region ?_
  refine TO.s rfl rfl rfl (StepS.ldB rfl (Ent.at 7 rfl) kscalB_3_true rfl) ?_
  obtain ⟨y21, hk22, hm⟩ := bind_some hm
  refine TO.mkSSg (ee := 3) (sz := 1) (f := cI) kelemB_50_22_1_24_true kinfo_22_bind_zero_some_slice_none_0_0 rfl rfl hk22 rfl fun v23 hs24 => ?_
  refine TO.alloc kinfo_50_bind_zero_some_slice_none_0_0 rfl rfl fun b26 => ?_
  refine TO.pure (fun _ s => Rd.one (RR.top (SS.rr (Ent.at 1 rfl))) s) fun oc27 => ?_
  refine TO.stB (us := [v23]) 0 [v23] rfl rfl rfl ksizeB_50_1_true oc27.2 rfl rfl (by intro u hu; simp only [List.mem_cons, List.not_mem_nil, or_false] at hu; rcases hu with rfl <;> first | exact oc27.1 | rfl) rfl ?_
  refine TO.code ?_
  refine TC.k ?_
  refine TC.region ?_
  refine TO.s rfl rfl rfl (StepS.ldB rfl (Ent.at 9 rfl) kscalB_3_true rfl) ?_
  obtain ⟨y28, hk29, hm⟩ := bind_some hm
  refine TO.mkSSg (ee := 3) (sz := 1) (f := cI) kelemB_50_22_1_24_true kinfo_22_bind_zero_some_slice_none_0_0 rfl rfl hk29 rfl fun v30 hs31 => ?_
  refine TO.s rfl rfl rfl (StepS.assign rfl) ?_
  refine TO.code ?_
  refine TC.k ?_
  refine TC.region ?_
  refine TO.s rfl rfl rfl (StepS.assign rfl) ?_
  refine TO.code ?_
  refine TC.k ?_
  refine TC.region ?_
  refine TO.s rfl rfl rfl (StepS.mkfn rfl) ?_
  refine TO.s rfl rfl rfl (StepS.assign rfl) ?_
  refine TO.code ?_
  refine TC.k ?_
  refine TC.k ?_
  refine TC.region ?_
  refine TO.s rfl rfl rfl (StepS.move rfl) ?_
  refine TO.s rfl rfl rfl (StepS.lenm rfl e1.tl.tl.tl.tl.tl.tl.tl.tl.tl.tl.tl ksliceB_23_106_4_true rfl) ?_
  refine TO.s rfl rfl rfl (StepS.move rfl) ?_
  refine TO.code ?_
  obtain ⟨o92, hw93, hm⟩ := bind_some hm
  refine TC.loop hw93 (fun (y35, y39, y42, y45, y48, y49, y51, x52) => fun a w => ∃ v33 : Value, ∃ v36 : Value, ∃ hs37 : List Value, ∃ v40 : Value, ∃ v43 : Value, ∃ v46 : Value, ∃ hs50 : List Value, Mid 301 B [(2, .pointer (some ⟨b2, 0, none⟩)), (4, .pointer (some ⟨b3, 0, none⟩)), (5, .pointer (some ⟨b4, 0, none⟩)), (6, v7), (7, .pointer (some ⟨b13, 0, none⟩)), (8, .pointer (some ⟨b19, 0, none⟩)), (9, .pointer (some ⟨b26, 0, none⟩)), (10, v30), (11, v33), (12, .func (.func 73) #[] #[.pointer (some ⟨b13, 0, none⟩), .pointer (some ⟨b26, 0, none⟩), .pointer (some ⟨b2, 0, none⟩), .pointer (some ⟨b19, 0, none⟩)]), (34, h1), (35, I (a1.length : Int)), (36, I x52)] (OwnS 138 3 v33 (y35.map cTiii) :: SS 22 3 1 cI v36 hs37 (y39) :: OwnS 4 1 v40 (y42.map cB) :: OwnS 3 1 v43 (y45.map cI) :: OwnS 28 1 v46 (y48.map cI) :: SS 22 3 1 cI v30 hs50 (y49) :: Bx b26 50 [v36] :: Bx b19 115 [v40] :: Bx b13 22 [v43] :: OwnS 3 1 v7 (y51.map cI) :: Bx b4 80 [v46, U 0, U 0, I 0] :: Bx b3 80 [.slice none 0 0, U 0, U 0, I 0] :: Bx b2 3 [I a0] :: L) a w) (fun (y75, y79, y82, y85, y88, y89, y91) => fun a w => ∃ v73 : Value, ∃ v76 : Value, ∃ hs77 : List Value, ∃ v80 : Value, ∃ v83 : Value, ∃ v86 : Value, ∃ hs90 : List Value, Mid 301 B [(2, .pointer (some ⟨b2, 0, none⟩)), (4, .pointer (some ⟨b3, 0, none⟩)), (5, .pointer (some ⟨b4, 0, none⟩)), (7, .pointer (some ⟨b13, 0, none⟩)), (8, .pointer (some ⟨b19, 0, none⟩)), (11, v73)] (OwnS 138 3 v73 (y75.map cTiii) :: SS 22 3 1 cI v76 hs77 (y79) :: OwnS 4 1 v80 (y82.map cB) :: OwnS 3 1 v83 (y85.map cI) :: OwnS 28 1 v86 (y88.map cI) :: SS 22 3 1 cI v30 hs90 (y89) :: Bx b26 50 [v76] :: Bx b19 115 [v80] :: Bx b13 22 [v83] :: OwnS 3 1 v7 (y91.map cI) :: Bx b4 80 [v86, U 0, U 0, I 0] :: Bx b3 80 [.slice none 0 0, U 0, U 0, I 0] :: Bx b2 3 [I a0] :: L) a w) (fun (_ : Unit) _ _ => False) ?_ ?_ ?_ ?_
  · rintro ⟨y35, y39, y42, y45, y48, y49, y51, x52⟩ o92r hb94 a w ⟨v33, v36, hs37, v40, v43, v46, hs50, he, hs⟩
    dsimp only [F39_L0] at hb94
    refine TC.use ?_ he hs
    refine TC.k ?_
    refine TC.region ?_
    refine TO.s rfl rfl rfl (StepS.cmp rfl rfl rfl) ?_
    refine TO.code ?_
    refine TC.k ?_
    refine TC.cond rfl (fun hc95 => ?_) (fun hc95 => ?_)
    · replace hb94 := cond_t hc95 hb94
      refine TC.skipk ?_
      refine TC.k ?_
      refine TC.block ?_
      refine TC.k ?_
      refine TC.region ?_
      obtain ⟨x96, hx97, hb94⟩ := bind_some hb94
      refine TO.s rfl rfl rfl (StepS.idx rfl rfl e1.tl.tl.tl.tl.tl.tl.tl.tl.tl.tl.tl.tl.tl ksliceB_23_106_4_true (idx_spec hx97).1 (idxm_lt hx97)) ?_
      refine TO.s rfl rfl rfl (StepS.ldE rfl e1.tl.tl.tl.tl.tl.tl.tl.tl.tl.tl.tl.tl.tl kaggB_106_4_true rfl (idxm hx97)) ?_
      refine TO.alloc kinfo_106_bind_zero_some_agg_I_0_I_0_I_0_I_0 rfl rfl fun b98 => ?_
      refine TO.stB (us := [I x96.1, I x96.2.1, I x96.2.2.1, I x96.2.2.2]) 0 [I x96.1, I x96.2.1, I x96.2.2.1, I x96.2.2.2] rfl rfl rfl ksizeB_106_4_true rfl rfl rfl (by simp [Value.oneCell']) rfl ?_
      refine TO.code ?_
      refine TC.k ?_
      refine TC.region ?_
      refine TO.s rfl rfl rfl (StepS.assign rfl) ?_
      refine TO.code ?_
      refine TC.k ?_
      refine TC.region ?_
      refine TO.s rfl rfl rfl (StepS.move rfl) ?_
      refine TO.s rfl rfl rfl (StepS.fld rfl kfieldB_106_1_1_true) ?_
      refine TO.s rfl rfl rfl (StepS.ldB rfl (Ent.at 0 rfl) kscalB_3_true rfl) ?_
      refine TO.s rfl rfl rfl (StepS.fld rfl kfieldB_106_2_2_true) ?_
      refine TO.s rfl rfl rfl (StepS.ldB rfl (Ent.at 0 rfl) kscalB_3_true rfl) ?_
      obtain ⟨r99, hc100, hb94⟩ := bind_some hb94
      refine TO.q rfl rfl rfl (StepQ.call kcallB_61_true rfl rfl (fun _ st => C61 (OwnS.rd (Ent.at 1 rfl)) hc100 st)) ?_
      refine TO.s rfl rfl rfl (StepS.assign rfl) ?_
      refine TO.code ?_
      refine TC.k ?_
      refine TC.k ?_
      refine TC.region ?_
      refine TO.s rfl rfl rfl (StepS.fld rfl kfieldB_106_0_0_true) ?_
      refine TO.s rfl rfl rfl (StepS.ldB rfl (Ent.at 0 rfl) kscalB_3_true rfl) ?_
      refine TO.s rfl rfl rfl (StepS.cmp rfl rfl rfl) ?_
      refine TO.s rfl rfl rfl (StepS.move rfl) ?_
      refine TO.mid1 4 53 (.bool ((decide (x96.1 < 1)) || (decide (x96.1 > 3)))) ?_ ?_
      · refine bcase ((decide (x96.1 < 1))) (fun hb101 => ?_) (fun hb101 => ?_)
        · refine TO.skip rfl rfl rfl (skipT hb101) rfl rfl ?_
          refine TO.skip rfl rfl rfl (skipT hb101) rfl rfl ?_
          refine TO.skip rfl rfl rfl (skipT hb101) rfl rfl ?_
          refine TO.s rfl rfl rfl (StepS.pickT rfl hb101 rfl) ?_
          exact TO.up1 4 0 rfl rfl (by rw [hb101]; rfl) rfl
        · refine TO.sw rfl rfl rfl hb101 rfl rfl (StepS.fld rfl kfieldB_106_0_0_true) ?_
          refine TO.sw rfl rfl rfl hb101 rfl rfl (StepS.ldB rfl (Ent.at 0 rfl) kscalB_3_true rfl) ?_
          refine TO.sw rfl rfl rfl hb101 rfl rfl (StepS.cmp rfl rfl rfl) ?_
          refine TO.s rfl rfl rfl (StepS.pickF rfl hb101 rfl) ?_
          exact TO.up1 4 0 rfl rfl (by rw [hb101]; rfl) rfl
      refine TO.code ?_
      obtain ⟨⟨y104, y108, y111, y114, y115, y117, x118⟩, hj119, hb94⟩ := bind_some hb94
      first | refine TC.cutM (fun a w => ∃ v102 : Value, ∃ v105 : Value, ∃ hs106 : List Value, ∃ v109 : Value, ∃ v112 : Value, ∃ hs116 : List Value, Mid 301 B [(2, .pointer (some ⟨b2, 0, none⟩)), (4, .pointer (some ⟨b3, 0, none⟩)), (5, .pointer (some ⟨b4, 0, none⟩)), (6, v7), (7, .pointer (some ⟨b13, 0, none⟩)), (8, .pointer (some ⟨b19, 0, none⟩)), (9, .pointer (some ⟨b26, 0, none⟩)), (10, v30), (11, v102), (12, .func (.func 73) #[] #[.pointer (some ⟨b13, 0, none⟩), .pointer (some ⟨b26, 0, none⟩), .pointer (some ⟨b2, 0, none⟩), .pointer (some ⟨b19, 0, none⟩)]), (15, I x118), (34, h1), (35, I (a1.length : Int)), (36, I x52)] (OwnS 138 3 v102 (y104.map cTiii) :: SS 22 3 1 cI v105 hs106 (y108) :: OwnS 4 1 v109 (y111.map cB) :: OwnS 3 1 v112 (y114.map cI) :: Bx b98 106 [I x96.1, I x96.2.1, I x96.2.2.1, I x96.2.2.2] :: OwnS 28 1 v46 (y48.map cI) :: SS 22 3 1 cI v30 hs116 (y115) :: Bx b26 50 [v105] :: Bx b19 115 [v109] :: Bx b13 22 [v112] :: OwnS 3 1 v7 (y117.map cI) :: Bx b4 80 [v46, U 0, U 0, I 0] :: Bx b3 80 [.slice none 0 0, U 0, U 0, I 0] :: Bx b2 3 [I a0] :: L) a w) ?_ ?_ | refine TC.cutX (fun a w => ∃ v102 : Value, ∃ v105 : Value, ∃ hs106 : List Value, ∃ v109 : Value, ∃ v112 : Value, ∃ hs116 : List Value, Mid 301 B [(2, .pointer (some ⟨b2, 0, none⟩)), (4, .pointer (some ⟨b3, 0, none⟩)), (5, .pointer (some ⟨b4, 0, none⟩)), (6, v7), (7, .pointer (some ⟨b13, 0, none⟩)), (8, .pointer (some ⟨b19, 0, none⟩)), (9, .pointer (some ⟨b26, 0, none⟩)), (10, v30), (11, v102), (12, .func (.func 73) #[] #[.pointer (some ⟨b13, 0, none⟩), .pointer (some ⟨b26, 0, none⟩), .pointer (some ⟨b2, 0, none⟩), .pointer (some ⟨b19, 0, none⟩)]), (15, I x118), (34, h1), (35, I (a1.length : Int)), (36, I x52)] (OwnS 138 3 v102 (y104.map cTiii) :: SS 22 3 1 cI v105 hs106 (y108) :: OwnS 4 1 v109 (y111.map cB) :: OwnS 3 1 v112 (y114.map cI) :: Bx b98 106 [I x96.1, I x96.2.1, I x96.2.2.1, I x96.2.2.2] :: OwnS 28 1 v46 (y48.map cI) :: SS 22 3 1 cI v30 hs116 (y115) :: Bx b26 50 [v105] :: Bx b19 115 [v109] :: Bx b13 22 [v112] :: OwnS 3 1 v7 (y117.map cI) :: Bx b4 80 [v46, U 0, U 0, I 0] :: Bx b3 80 [.slice none 0 0, U 0, U 0, I 0] :: Bx b2 3 [I a0] :: L) a w) ?_ ?_
      · refine TC.cond rfl (fun hc120 => ?_) (fun hc120 => ?_)
        · replace hj119 := cond_t hc120 hj119
          refine TC.region ?_
          refine TO.s rfl rfl rfl (StepS.assign rfl) ?_
          cases hj119
          refine TO.nil fun a w e s => ?_
          exact ⟨v33, v36, hs37, v40, v43, hs50, e.sub (lk_of_allIn ⟨rfl, rfl, rfl, rfl, rfl, rfl, rfl, rfl, rfl, rfl, rfl, rfl, rfl, rfl, trivial⟩), s.mono fun _ s => (by exact Sat.by [13, 13, 13, 13, 13, 13, 13, 13, 13, 9, 13, 13, 13, 13] 14 0 (by kernel_rfl) s)⟩
        · replace hj119 := cond_f hc120 hj119
          refine TC.k ?_
          refine TC.region ?_
          refine TO.s rfl rfl rfl (StepS.ldB rfl (Ent.at 13 rfl) kscalB_3_true rfl) ?_
          refine TO.s rfl rfl rfl (StepS.ldBA rfl (Ent.at 0 rfl) kaggB_106_4_true rfl rfl) ?_
          refine TO.s rfl rfl rfl (StepS.fld rfl kfieldB_106_0_0_true) ?_
          refine TO.s rfl rfl rfl (StepS.ldB rfl (Ent.at 0 rfl) kscalB_3_true rfl) ?_
          refine TO.s rfl rfl rfl (StepS.cmp rfl rfl rfl) ?_
          obtain ⟨r121, hc122, hj119⟩ := bind_some hj119
          refine TO.q rfl rfl rfl (StepQ.call kcallB_57_true rfl rfl (fun _ st => C57  hc122 st)) ?_
          refine TO.s rfl rfl rfl (StepS.not rfl) ?_
          refine TO.code ?_
          refine TC.cond rfl (fun hc123 => ?_) (fun hc123 => ?_)
          · replace hj119 := cond_t hc123 hj119
            refine TC.region ?_
            refine TO.s rfl rfl rfl (StepS.assign rfl) ?_
            cases hj119
            refine TO.nil fun a w e s => ?_
            exact ⟨v33, v36, hs37, v40, v43, hs50, e.sub (lk_of_allIn ⟨rfl, rfl, rfl, rfl, rfl, rfl, rfl, rfl, rfl, rfl, rfl, rfl, rfl, rfl, trivial⟩), s.mono fun _ s => (by exact Sat.by [13, 13, 13, 13, 13, 13, 13, 13, 13, 9, 13, 13, 13, 13] 14 0 (by kernel_rfl) s)⟩
          · replace hj119 := cond_f hc123 hj119
            refine TC.k ?_
            refine TC.region ?_
            refine TO.s rfl rfl rfl (StepS.fld rfl kfieldB_106_0_0_true) ?_
            refine TO.s rfl rfl rfl (StepS.ldB rfl (Ent.at 0 rfl) kscalB_3_true rfl) ?_
            refine TO.s rfl rfl rfl (StepS.cmp rfl rfl rfl) ?_
            refine TO.s rfl rfl rfl (StepS.move rfl) ?_
            obtain ⟨b125, hj126, hj119⟩ := bind_some hj119
            refine TO.mid1 14 78 (.bool b125) ?_ ?_
            · refine bcase ((x96.1 == 1)) (fun hb124 => ?_) (fun hb124 => ?_)
              · replace hj126 := cond_t hb124 hj126
                refine TO.sw rfl rfl rfl hb124 rfl rfl (StepS.ldB rfl (Ent.at 8 rfl) kscalB_115_true rfl) ?_
                refine TO.sw rfl rfl rfl hb124 rfl rfl (StepS.fld rfl kfieldB_106_1_1_true) ?_
                refine TO.sw rfl rfl rfl hb124 rfl rfl (StepS.ldB rfl (Ent.at 0 rfl) kscalB_3_true rfl) ?_
                obtain ⟨x127, hx128, hj126⟩ := bind_some hj126
                refine TO.sw rfl rfl rfl hb124 rfl rfl (StepS.idx rfl rfl (OwnS.rd (Ent.at 3 rfl)) ksliceB_115_4_1_true (idx_spec hx128).1 (idxm_lt hx128)) ?_
                refine TO.sw rfl rfl rfl hb124 rfl rfl (StepS.ld0 rfl (OwnS.rd (Ent.at 3 rfl)) kscalB_4_true rfl (idxm hx128) rfl) ?_
                refine TO.sw rfl rfl rfl hb124 rfl rfl (StepS.move rfl) ?_
                obtain ⟨b130, hj131, hj126⟩ := bind_some hj126
                refine TO.mid1 7 77 (.bool b130) ?_ ?_
                · refine bcase (x127) (fun hb129 => ?_) (fun hb129 => ?_)
                  · replace hj131 := cond_t hb129 hj131
                    cases hj131
                    refine TO.skip rfl rfl rfl (skipT hb129) rfl rfl ?_
                    refine TO.skip rfl rfl rfl (skipT hb129) rfl rfl ?_
                    refine TO.skip rfl rfl rfl (skipT hb129) rfl rfl ?_
                    refine TO.skip rfl rfl rfl (skipT hb129) rfl rfl ?_
                    refine TO.skip rfl rfl rfl (skipT hb129) rfl rfl ?_
                    refine TO.skip rfl rfl rfl (skipT hb129) rfl rfl ?_
                    refine TO.sw rfl rfl rfl hb124 rfl rfl (StepS.pickT rfl hb129 rfl) ?_
                    exact TO.up1 7 0 rfl rfl rfl rfl
                  · replace hj131 := cond_f hb129 hj131
                    refine TO.sw rfl rfl rfl hb129 rfl rfl (StepS.ldB rfl (Ent.at 9 rfl) kscalB_22_true rfl) ?_
                    refine TO.sw rfl rfl rfl hb129 rfl rfl (StepS.fld rfl kfieldB_106_1_1_true) ?_
                    refine TO.sw rfl rfl rfl hb129 rfl rfl (StepS.ldB rfl (Ent.at 0 rfl) kscalB_3_true rfl) ?_
                    obtain ⟨x132, hx133, hj131⟩ := bind_some hj131
                    refine TO.sw rfl rfl rfl hb129 rfl rfl (StepS.idx rfl rfl (OwnS.rd (Ent.at 4 rfl)) ksliceB_22_3_1_true (idx_spec hx133).1 (idxm_lt hx133)) ?_
                    refine TO.sw rfl rfl rfl hb129 rfl rfl (StepS.ld0 rfl (OwnS.rd (Ent.at 4 rfl)) kscalB_3_true rfl (idxm hx133) rfl) ?_
                    refine TO.sw rfl rfl rfl hb129 rfl rfl (StepS.cmp rfl rfl rfl) ?_
                    cases hj131
                    refine TO.sw rfl rfl rfl hb124 rfl rfl (StepS.pickF rfl hb129 rfl) ?_
                    exact TO.up1 7 0 rfl rfl rfl rfl
                cases hj126
                refine TO.s rfl rfl rfl (StepS.pickT rfl hb124 rfl) ?_
                exact TO.up1 8 0 rfl rfl rfl rfl
              · replace hj126 := cond_f hb124 hj126
                cases hj126
                refine TO.skip rfl rfl rfl (skipF hb124) rfl rfl ?_
                refine TO.skip rfl rfl rfl (skipF hb124) rfl rfl ?_
                refine TO.skip rfl rfl rfl (skipF hb124) rfl rfl ?_
                refine TO.skip rfl rfl rfl (skipF hb124) rfl rfl ?_
                refine TO.skip rfl rfl rfl (skipF hb124) rfl rfl ?_
                refine TO.skip rfl rfl rfl (skipF hb124) rfl rfl ?_
                refine TO.skip rfl rfl rfl skipU rfl rfl ?_
                refine TO.skip rfl rfl rfl skipU rfl rfl ?_
                refine TO.skip rfl rfl rfl skipU rfl rfl ?_
                refine TO.skip rfl rfl rfl skipU rfl rfl ?_
                refine TO.skip rfl rfl rfl skipU rfl rfl ?_
                refine TO.skip rfl rfl rfl skipU rfl rfl ?_
                refine TO.skip rfl rfl rfl (skipF hb124) rfl rfl ?_
                refine TO.s rfl rfl rfl (StepS.pickF rfl hb124 rfl) ?_
                exact TO.up1 14 0 rfl rfl rfl rfl
            refine TO.s rfl rfl rfl (StepS.move rfl) ?_
            obtain ⟨b135, hj136, hj119⟩ := bind_some hj119
            refine TO.mid1 12 91 (.bool b135) ?_ ?_
            · refine bcase (b125) (fun hb134 => ?_) (fun hb134 => ?_)
              · replace hj136 := cond_t hb134 hj136
                cases hj136
                refine TO.skip rfl rfl rfl (skipT hb134) rfl rfl ?_
                refine TO.skip rfl rfl rfl (skipT hb134) rfl rfl ?_
                refine TO.skip rfl rfl rfl (skipT hb134) rfl rfl ?_
                refine TO.skip rfl rfl rfl (skipT hb134) rfl rfl ?_
                refine TO.skip rfl rfl rfl skipU rfl rfl ?_
                refine TO.skip rfl rfl rfl skipU rfl rfl ?_
                refine TO.skip rfl rfl rfl skipU rfl rfl ?_
                refine TO.skip rfl rfl rfl skipU rfl rfl ?_
                refine TO.skip rfl rfl rfl skipU rfl rfl ?_
                refine TO.skip rfl rfl rfl skipU rfl rfl ?_
                refine TO.skip rfl rfl rfl (skipT hb134) rfl rfl ?_
                refine TO.s rfl rfl rfl (StepS.pickT rfl hb134 rfl) ?_
                exact TO.up1 12 0 rfl rfl rfl rfl
              · replace hj136 := cond_f hb134 hj136
                refine TO.sw rfl rfl rfl hb134 rfl rfl (StepS.fld rfl kfieldB_106_0_0_true) ?_
                refine TO.sw rfl rfl rfl hb134 rfl rfl (StepS.ldB rfl (Ent.at 0 rfl) kscalB_3_true rfl) ?_
                refine TO.sw rfl rfl rfl hb134 rfl rfl (StepS.cmp rfl rfl rfl) ?_
                refine TO.sw rfl rfl rfl hb134 rfl rfl (StepS.move rfl) ?_
                obtain ⟨b138, hj139, hj136⟩ := bind_some hj136
                refine TO.mid1 7 90 (.bool b138) ?_ ?_
                · refine bcase ((x96.1 == 3)) (fun hb137 => ?_) (fun hb137 => ?_)
                  · replace hj139 := cond_t hb137 hj139
                    refine TO.sw rfl rfl rfl hb137 rfl rfl (StepS.ldB rfl (Ent.at 8 rfl) kscalB_115_true rfl) ?_
                    refine TO.sw rfl rfl rfl hb137 rfl rfl (StepS.fld rfl kfieldB_106_1_1_true) ?_
                    refine TO.sw rfl rfl rfl hb137 rfl rfl (StepS.ldB rfl (Ent.at 0 rfl) kscalB_3_true rfl) ?_
                    obtain ⟨x140, hx141, hj139⟩ := bind_some hj139
                    refine TO.sw rfl rfl rfl hb137 rfl rfl (StepS.idx rfl rfl (OwnS.rd (Ent.at 3 rfl)) ksliceB_115_4_1_true (idx_spec hx141).1 (idxm_lt hx141)) ?_
                    refine TO.sw rfl rfl rfl hb137 rfl rfl (StepS.ld0 rfl (OwnS.rd (Ent.at 3 rfl)) kscalB_4_true rfl (idxm hx141) rfl) ?_
                    refine TO.sw rfl rfl rfl hb137 rfl rfl (StepS.not rfl) ?_
                    cases hj139
                    refine TO.sw rfl rfl rfl hb134 rfl rfl (StepS.pickT rfl hb137 rfl) ?_
                    exact TO.up1 7 0 rfl rfl rfl rfl
                  · replace hj139 := cond_f hb137 hj139
                    cases hj139
                    refine TO.skip rfl rfl rfl (skipF hb137) rfl rfl ?_
                    refine TO.skip rfl rfl rfl (skipF hb137) rfl rfl ?_
                    refine TO.skip rfl rfl rfl (skipF hb137) rfl rfl ?_
                    refine TO.skip rfl rfl rfl (skipF hb137) rfl rfl ?_
                    refine TO.skip rfl rfl rfl (skipF hb137) rfl rfl ?_
                    refine TO.skip rfl rfl rfl (skipF hb137) rfl rfl ?_
                    refine TO.sw rfl rfl rfl hb134 rfl rfl (StepS.pickF rfl hb137 rfl) ?_
                    exact TO.up1 7 0 rfl rfl rfl rfl
                cases hj136
                refine TO.s rfl rfl rfl (StepS.pickF rfl hb134 rfl) ?_
                exact TO.up1 6 0 rfl rfl rfl rfl
            refine TO.code ?_
            refine TC.cond rfl (fun hc142 => ?_) (fun hc142 => ?_)
            · replace hj119 := cond_t hc142 hj119
              refine TC.region ?_
              refine TO.s rfl rfl rfl (StepS.assign rfl) ?_
              cases hj119
              refine TO.nil fun a w e s => ?_
              exact ⟨v33, v36, hs37, v40, v43, hs50, e.sub (lk_of_allIn ⟨rfl, rfl, rfl, rfl, rfl, rfl, rfl, rfl, rfl, rfl, rfl, rfl, rfl, rfl, trivial⟩), s.mono fun _ s => (by exact Sat.by [13, 13, 13, 13, 13, 13, 13, 13, 13, 9, 13, 13, 13, 13] 14 0 (by kernel_rfl) s)⟩
            · replace hj119 := cond_f hc142 hj119
              refine TC.k ?_
              refine TC.region ?_
              refine TO.s rfl rfl rfl (StepS.fld rfl kfieldB_106_0_0_true) ?_
              refine TO.s rfl rfl rfl (StepS.ldB rfl (Ent.at 0 rfl) kscalB_3_true rfl) ?_
              refine TO.s rfl rfl rfl (StepS.cmp rfl rfl rfl) ?_
              refine TO.code ?_
              refine TC.cond rfl (fun hc143 => ?_) (fun hc143 => ?_)
              · replace hj119 := cond_t hc143 hj119
                refine TC.k ?_
                refine TC.region_tail 10 kfollows_mixedOrders_true (by kernel_rfl) ?_
                refine TS.s rfl rfl rfl (StepS.move rfl) ?_
                refine TS.s rfl rfl rfl (StepS.fld rfl kfieldB_106_1_1_true) ?_
                refine TS.s rfl rfl rfl (StepS.ldB rfl (Ent.at 0 rfl) kscalB_3_true rfl) ?_
                refine TS.s rfl rfl rfl (StepS.move rfl) ?_
                refine TS.s rfl rfl rfl (StepS.fld rfl kfieldB_106_1_1_true) ?_
                refine TS.s rfl rfl rfl (StepS.ldB rfl (Ent.at 0 rfl) kscalB_3_true rfl) ?_
                obtain ⟨x144, hx145, hj119⟩ := bind_some hj119
                refine TS.s rfl rfl rfl (StepS.idx rfl rfl (OwnS.rd (Ent.at 10 rfl)) ksliceB_22_3_1_true (idx_spec hx145).1 (idxm_lt hx145)) ?_
                refine TS.s rfl rfl rfl (StepS.ld0 rfl (OwnS.rd (Ent.at 10 rfl)) kscalB_3_true rfl (idxm hx145) rfl) ?_
                refine TS.s rfl rfl rfl (StepS.ari rfl rfl rfl) ?_
                obtain ⟨x146, hx147, hj119⟩ := bind_some hj119
                refine TS.s rfl rfl rfl (StepS.idx rfl rfl (OwnS.rd (Ent.at 10 rfl)) ksliceB_22_3_1_true (idx_spec hx147).1 (idxm_lt hx147)) ?_
                refine TS.nil ?_
                refine TO.at ?_
                refine TO.stO (i := x96.2.1.toNat) (off := 0) (us := [I (w64 (x144 + 1))]) 10 (w64 (x144 + 1)) rfl rfl rfl ksizeB_3_1_true rfl rfl rfl (idx_spec hx147).2 rfl (by simp [Value.oneCell']) rfl ?_
                refine TO.code ?_
                refine TC.k ?_
                refine TC.region_tail 9 kfollows_mixedOrders_true (by kernel_rfl) ?_
                refine TS.s rfl rfl rfl (StepS.ldB rfl (Ent.at 9 rfl) kscalB_22_true rfl) ?_
                refine TS.s rfl rfl rfl (StepS.fld rfl kfieldB_106_1_1_true) ?_
                refine TS.s rfl rfl rfl (StepS.ldB rfl (Ent.at 0 rfl) kscalB_3_true rfl) ?_
                refine TS.s rfl rfl rfl (StepS.move rfl) ?_
                refine TS.s rfl rfl rfl (StepS.fld rfl kfieldB_106_1_1_true) ?_
                refine TS.s rfl rfl rfl (StepS.ldB rfl (Ent.at 0 rfl) kscalB_3_true rfl) ?_
                obtain ⟨x148, hx149, hj119⟩ := bind_some hj119
                refine TS.s rfl rfl rfl (StepS.idx rfl rfl (OwnS.rd (Ent.at 10 rfl)) ksliceB_22_3_1_true (idx_spec hx149).1 (idxm_lt hx149)) ?_
                refine TS.s rfl rfl rfl (StepS.ld0 rfl (OwnS.rd (Ent.at 10 rfl)) kscalB_3_true rfl (idxm hx149) rfl) ?_
                obtain ⟨x150, hx151, hj119⟩ := bind_some hj119
                refine TS.s rfl rfl rfl (StepS.idx rfl rfl (OwnS.rd (Ent.at 4 rfl)) ksliceB_22_3_1_true (idx_spec hx151).1 (idxm_lt hx151)) ?_
                refine TS.nil ?_
                refine TO.at ?_
                refine TO.stO (i := x96.2.1.toNat) (off := 0) (us := [I x148]) 4 x148 rfl rfl rfl ksizeB_3_1_true rfl rfl rfl (idx_spec hx151).2 rfl (by simp [Value.oneCell']) rfl ?_
                refine TO.code ?_
                refine TC.k ?_
                refine TC.region ?_
                refine TO.s rfl rfl rfl (StepS.ldB rfl (Ent.at 7 rfl) kscalB_50_true rfl) ?_
                refine TO.s rfl rfl rfl (StepS.fld rfl kfieldB_106_1_1_true) ?_
                refine TO.s rfl rfl rfl (StepS.ldB rfl (Ent.at 0 rfl) kscalB_3_true rfl) ?_
                obtain ⟨x152, hx153, hj119⟩ := bind_some hj119
                refine TO.s rfl rfl rfl (StepS.idxRR rfl rfl (SS.rr (Ent.at 2 rfl)) ksliceB_50_22_1_true hx153) ?_
                refine TO.ghost (fun _ => Sat.nilS (e := 3) (sz := 1) (f := cI)) ?_
                refine TO.ghost (fun _ s => Sat.front 3 rfl s) ?_
                refine TO.stRow (xs := ([] : List (Int))) rfl rfl hx153 ksizeB_22_1_true ?_
                refine TO.code ?_
                refine TC.k ?_
                refine TC.k ?_
                refine TC.region ?_
                refine TO.s rfl rfl rfl (StepS.assign rfl) ?_
                refine TO.code ?_
                obtain ⟨o163, hw164, hj119⟩ := bind_some hj119
                refine TC.loop hw164 (fun (y155, x157) => fun a w => ∃ v156 : Value, Mid 301 B [(2, .pointer (some ⟨b2, 0, none⟩)), (4, .pointer (some ⟨b3, 0, none⟩)), (5, .pointer (some ⟨b4, 0, none⟩)), (6, v7), (7, .pointer (some ⟨b13, 0, none⟩)), (8, .pointer (some ⟨b19, 0, none⟩)), (9, .pointer (some ⟨b26, 0, none⟩)), (10, v30), (11, v156), (12, .func (.func 73) #[] #[.pointer (some ⟨b13, 0, none⟩), .pointer (some ⟨b26, 0, none⟩), .pointer (some ⟨b2, 0, none⟩), .pointer (some ⟨b19, 0, none⟩)]), (14, .pointer (some ⟨b98, 0, none⟩)), (15, I 0), (17, I x157), (34, h1), (35, I (a1.length : Int)), (36, I x52)] (SS 22 3 1 cI v36 (hs37.set x96.2.1.toNat (.slice none 0 0)) (y39.set x96.2.1.toNat ([] : List (Int))) :: Bx b98 106 [I x96.1, I x96.2.1, I x96.2.2.1, I x96.2.2.2] :: OwnS 138 3 v156 (y155.map cTiii) :: OwnS 4 1 v40 (y42.map cB) :: OwnS 3 1 v43 ((y45.set x96.2.1.toNat x148).map cI) :: OwnS 28 1 v46 (y48.map cI) :: SS 22 3 1 cI v30 hs50 (y49) :: Bx b26 50 [v36] :: Bx b19 115 [v40] :: Bx b13 22 [v43] :: OwnS 3 1 v7 ((y51.set x96.2.1.toNat (w64 (x144 + 1))).map cI) :: Bx b4 80 [v46, U 0, U 0, I 0] :: Bx b3 80 [.slice none 0 0, U 0, U 0, I 0] :: Bx b2 3 [I a0] :: L) a w) (fun y161 => fun a w => ∃ v162 : Value, Mid 301 B [(2, .pointer (some ⟨b2, 0, none⟩)), (4, .pointer (some ⟨b3, 0, none⟩)), (5, .pointer (some ⟨b4, 0, none⟩)), (6, v7), (7, .pointer (some ⟨b13, 0, none⟩)), (8, .pointer (some ⟨b19, 0, none⟩)), (9, .pointer (some ⟨b26, 0, none⟩)), (10, v30), (11, v162), (12, .func (.func 73) #[] #[.pointer (some ⟨b13, 0, none⟩), .pointer (some ⟨b26, 0, none⟩), .pointer (some ⟨b2, 0, none⟩), .pointer (some ⟨b19, 0, none⟩)]), (14, .pointer (some ⟨b98, 0, none⟩)), (15, I 0), (34, h1), (35, I (a1.length : Int)), (36, I x52)] (SS 22 3 1 cI v36 (hs37.set x96.2.1.toNat (.slice none 0 0)) (y39.set x96.2.1.toNat ([] : List (Int))) :: Bx b98 106 [I x96.1, I x96.2.1, I x96.2.2.1, I x96.2.2.2] :: OwnS 138 3 v162 (y161.map cTiii) :: OwnS 4 1 v40 (y42.map cB) :: OwnS 3 1 v43 ((y45.set x96.2.1.toNat x148).map cI) :: OwnS 28 1 v46 (y48.map cI) :: SS 22 3 1 cI v30 hs50 (y49) :: Bx b26 50 [v36] :: Bx b19 115 [v40] :: Bx b13 22 [v43] :: OwnS 3 1 v7 ((y51.set x96.2.1.toNat (w64 (x144 + 1))).map cI) :: Bx b4 80 [v46, U 0, U 0, I 0] :: Bx b3 80 [.slice none 0 0, U 0, U 0, I 0] :: Bx b2 3 [I a0] :: L) a w) (fun (_ : Unit) _ _ => False) ?_ ?_ ?_ ?_
                · rintro ⟨y155, x157⟩ o163r hb165 a w ⟨v156, he, hs⟩
                  dsimp only [F39_L1] at hb165
                  refine TC.use ?_ he hs
                  refine TC.k ?_
                  refine TC.k ?_
                  refine TC.region ?_
                  refine TO.s rfl rfl rfl (StepS.move rfl) ?_
                  refine TO.s rfl rfl rfl (StepS.ldB rfl (Ent.at 13 rfl) kscalB_3_true rfl) ?_
                  refine TO.s rfl rfl rfl (StepS.cmp rfl rfl rfl) ?_
                  refine TO.code ?_
                  refine TC.cond rfl (fun hc166 => ?_) (fun hc166 => ?_)
                  · replace hb165 := cond_t hc166 hb165
                    refine TC.skipk ?_
                    refine TC.k ?_
                    obtain ⟨y167, hj169, hb165⟩ := bind_some hb165
                    first | refine TC.cutM (fun a w => ∃ v168 : Value, Mid 301 B [(2, .pointer (some ⟨b2, 0, none⟩)), (4, .pointer (some ⟨b3, 0, none⟩)), (5, .pointer (some ⟨b4, 0, none⟩)), (6, v7), (7, .pointer (some ⟨b13, 0, none⟩)), (8, .pointer (some ⟨b19, 0, none⟩)), (9, .pointer (some ⟨b26, 0, none⟩)), (10, v30), (11, v168), (12, .func (.func 73) #[] #[.pointer (some ⟨b13, 0, none⟩), .pointer (some ⟨b26, 0, none⟩), .pointer (some ⟨b2, 0, none⟩), .pointer (some ⟨b19, 0, none⟩)]), (14, .pointer (some ⟨b98, 0, none⟩)), (15, I 0), (17, I x157), (34, h1), (35, I (a1.length : Int)), (36, I x52)] (SS 22 3 1 cI v36 (hs37.set x96.2.1.toNat (.slice none 0 0)) (y39.set x96.2.1.toNat ([] : List (Int))) :: Bx b98 106 [I x96.1, I x96.2.1, I x96.2.2.1, I x96.2.2.2] :: OwnS 138 3 v168 (y167.map cTiii) :: OwnS 4 1 v40 (y42.map cB) :: OwnS 3 1 v43 ((y45.set x96.2.1.toNat x148).map cI) :: OwnS 28 1 v46 (y48.map cI) :: SS 22 3 1 cI v30 hs50 (y49) :: Bx b26 50 [v36] :: Bx b19 115 [v40] :: Bx b13 22 [v43] :: OwnS 3 1 v7 ((y51.set x96.2.1.toNat (w64 (x144 + 1))).map cI) :: Bx b4 80 [v46, U 0, U 0, I 0] :: Bx b3 80 [.slice none 0 0, U 0, U 0, I 0] :: Bx b2 3 [I a0] :: L) a w) ?_ ?_ | refine TC.cutX (fun a w => ∃ v168 : Value, Mid 301 B [(2, .pointer (some ⟨b2, 0, none⟩)), (4, .pointer (some ⟨b3, 0, none⟩)), (5, .pointer (some ⟨b4, 0, none⟩)), (6, v7), (7, .pointer (some ⟨b13, 0, none⟩)), (8, .pointer (some ⟨b19, 0, none⟩)), (9, .pointer (some ⟨b26, 0, none⟩)), (10, v30), (11, v168), (12, .func (.func 73) #[] #[.pointer (some ⟨b13, 0, none⟩), .pointer (some ⟨b26, 0, none⟩), .pointer (some ⟨b2, 0, none⟩), .pointer (some ⟨b19, 0, none⟩)]), (14, .pointer (some ⟨b98, 0, none⟩)), (15, I 0), (17, I x157), (34, h1), (35, I (a1.length : Int)), (36, I x52)] (SS 22 3 1 cI v36 (hs37.set x96.2.1.toNat (.slice none 0 0)) (y39.set x96.2.1.toNat ([] : List (Int))) :: Bx b98 106 [I x96.1, I x96.2.1, I x96.2.2.1, I x96.2.2.2] :: OwnS 138 3 v168 (y167.map cTiii) :: OwnS 4 1 v40 (y42.map cB) :: OwnS 3 1 v43 ((y45.set x96.2.1.toNat x148).map cI) :: OwnS 28 1 v46 (y48.map cI) :: SS 22 3 1 cI v30 hs50 (y49) :: Bx b26 50 [v36] :: Bx b19 115 [v40] :: Bx b13 22 [v43] :: OwnS 3 1 v7 ((y51.set x96.2.1.toNat (w64 (x144 + 1))).map cI) :: Bx b4 80 [v46, U 0, U 0, I 0] :: Bx b3 80 [.slice none 0 0, U 0, U 0, I 0] :: Bx b2 3 [I a0] :: L) a w) ?_ ?_
                    · refine TC.block ?_
                      refine TC.k ?_
                      refine TC.region ?_
                      refine TO.s rfl rfl rfl (StepS.move rfl) ?_
                      refine TO.s rfl rfl rfl (StepS.fld rfl kfieldB_106_1_1_true) ?_
                      refine TO.s rfl rfl rfl (StepS.ldB rfl (Ent.at 1 rfl) kscalB_3_true rfl) ?_
                      refine TO.s rfl rfl rfl (StepS.cmp rfl rfl rfl) ?_
                      refine TO.code ?_
                      refine TC.cond rfl (fun hc170 => ?_) (fun hc170 => ?_)
                      · replace hj169 := cond_t hc170 hj169
                        refine TC.region_any (SS 22 3 1 cI v36 (hs37.set x96.2.1.toNat (.slice none 0 0)) (y39.set x96.2.1.toNat ([] : List (Int))) :: Bx b98 106 [I x96.1, I x96.2.1, I x96.2.2.1, I x96.2.2.2] :: OwnS 4 1 v40 (y42.map cB) :: OwnS 3 1 v43 ((y45.set x96.2.1.toNat x148).map cI) :: OwnS 28 1 v46 (y48.map cI) :: SS 22 3 1 cI v30 hs50 (y49) :: Bx b26 50 [v36] :: Bx b19 115 [v40] :: Bx b13 22 [v43] :: OwnS 3 1 v7 ((y51.set x96.2.1.toNat (w64 (x144 + 1))).map cI) :: Bx b4 80 [v46, U 0, U 0, I 0] :: Bx b3 80 [.slice none 0 0, U 0, U 0, I 0] :: Bx b2 3 [I a0] :: L) 13 13 kfollows_mixedOrders_true rfl ?_
                        refine TA.takeW 0 rfl rfl rfl rfl (StepS.move rfl) (by kernel_rfl) (by kernel_rfl) (by kernel_rfl) rfl (.inr (fun _ s => Sat.by [13, 13, 13, 13, 13, 13, 13, 13, 13, 13, 13, 12, 12] 13 1 (by kernel_rfl) s)) ?_
                        refine TA.takeW 1 rfl rfl rfl rfl (StepS.fld rfl kfieldB_106_1_1_true) (by kernel_rfl) (by kernel_rfl) (by kernel_rfl) rfl (.inr (fun _ s => Sat.by [13, 13, 13, 13, 13, 13, 13, 13, 13, 13, 13, 12, 12] 13 1 (by kernel_rfl) s)) ?_
                        refine TA.take 2 rfl rfl rfl rfl (StepS.ldB rfl (Ent.at 1 rfl) kscalB_3_true rfl) (by kernel_rfl) (by kernel_rfl) (by kernel_rfl) (by kernel_rfl) (by kernel_rfl) (fun _ s => Sat.by [13, 13, 13, 13, 13, 13, 13, 13, 13, 13, 13, 12, 12] 13 1 (by kernel_rfl) s) ?_
                        refine TA.takeW 3 rfl rfl rfl rfl (StepS.move rfl) (by kernel_rfl) (by kernel_rfl) (by kernel_rfl) rfl (.inr (fun _ s => Sat.by [13, 13, 13, 13, 13, 13, 13, 13, 13, 13, 13, 12, 12] 13 1 (by kernel_rfl) s)) ?_
                        refine TA.take 4 rfl rfl rfl rfl (StepS.ldB rfl (Ent.at 8 rfl) kscalB_22_true rfl) (by kernel_rfl) (by kernel_rfl) (by kernel_rfl) (by kernel_rfl) (by kernel_rfl) (fun _ s => Sat.by [13, 13, 13, 13, 13, 13, 13, 13, 13, 13, 13, 12, 12] 13 1 (by kernel_rfl) s) ?_
                        refine TA.takeW 5 rfl rfl rfl rfl (StepS.fld rfl kfieldB_106_1_1_true) (by kernel_rfl) (by kernel_rfl) (by kernel_rfl) rfl (.inr (fun _ s => Sat.by [13, 13, 13, 13, 13, 13, 13, 13, 13, 13, 13, 12, 12] 13 1 (by kernel_rfl) s)) ?_
                        refine TA.take 6 rfl rfl rfl rfl (StepS.ldB rfl (Ent.at 1 rfl) kscalB_3_true rfl) (by kernel_rfl) (by kernel_rfl) (by kernel_rfl) (by kernel_rfl) (by kernel_rfl) (fun _ s => Sat.by [13, 13, 13, 13, 13, 13, 13, 13, 13, 13, 13, 12, 12] 13 1 (by kernel_rfl) s) ?_
                        obtain ⟨xq171_7_1, hxq171_7_2, hj169⟩ := bind_some hj169
                        refine TA.take 7 rfl rfl rfl rfl (StepS.idx rfl rfl (OwnS.rd (Ent.at 3 rfl)) ksliceB_22_3_1_true (idx_spec hxq171_7_2).1 (idxm_lt hxq171_7_2)) (by kernel_rfl) (by kernel_rfl) (by kernel_rfl) (by kernel_rfl) (by kernel_rfl) (fun _ s => Sat.by [13, 13, 13, 13, 13, 13, 13, 13, 13, 13, 13, 12, 12] 13 1 (by kernel_rfl) s) ?_
                        refine TA.take 8 rfl rfl rfl rfl (StepS.ld0 rfl (OwnS.rd (Ent.at 3 rfl)) kscalB_3_true rfl (idxm hxq171_7_2) rfl) (by kernel_rfl) (by kernel_rfl) (by kernel_rfl) (by kernel_rfl) (by kernel_rfl) (fun _ s => Sat.by [13, 13, 13, 13, 13, 13, 13, 13, 13, 13, 13, 12, 12] 13 1 (by kernel_rfl) s) ?_
                        refine TA.takeW 9 rfl rfl rfl rfl (StepS.build (cs := [I x96.2.1, I x157, I xq171_7_1]) rfl (by kernel_rfl)) (by kernel_rfl) (by kernel_rfl) (by kernel_rfl) rfl (.inr (fun _ s => Sat.by [13, 13, 13, 13, 13, 13, 13, 13, 13, 13, 13, 12, 12] 13 1 (by kernel_rfl) s)) ?_
                        refine TA.all1 (i := 10) (by kernel_rfl) ?_
                        refine TB.of rfl ?_
                        refine TO.litS (f := cTiii) ([(x96.2.1, x157, xq171_7_1)] : List (Int × Int × Int)) kelemB_136_138_3_24_true kinfo_138_bind_zero_some_agg_I_0_I_0_I_0 rfl rfl (fun _ => rfl) rfl rfl (by kernel_rfl) rfl fun vq171_10_1 => ?_
                        refine TA.back (.inr (fun _ s => Sat.by [14, 14, 14, 14, 14, 14, 14, 14, 14, 14, 14, 13, 13] 13 2 (by kernel_rfl) s)) ?_
                        refine TA.asL (L' := (OwnS 138 3 vq171_10_1 (([(x96.2.1, x157, xq171_7_1)] : List (Int × Int × Int)).map cTiii) :: SS 22 3 1 cI v36 (hs37.set x96.2.1.toNat (.slice none 0 0)) (y39.set x96.2.1.toNat ([] : List (Int))) :: Bx b98 106 [I x96.1, I x96.2.1, I x96.2.2.1, I x96.2.2.2] :: OwnS 138 3 v156 (y155.map cTiii) :: OwnS 4 1 v40 (y42.map cB) :: OwnS 3 1 v43 ((y45.set x96.2.1.toNat x148).map cI) :: OwnS 28 1 v46 (y48.map cI) :: SS 22 3 1 cI v30 hs50 (y49) :: Bx b26 50 [v36] :: Bx b19 115 [v40] :: Bx b13 22 [v43] :: OwnS 3 1 v7 ((y51.set x96.2.1.toNat (w64 (x144 + 1))).map cI) :: Bx b4 80 [v46, U 0, U 0, I 0] :: Bx b3 80 [.slice none 0 0, U 0, U 0, I 0] :: Bx b2 3 [I a0] :: L)) (listed' := #[true, true, true, true, true, true, true, true, true, true, true, false, false]) (by kernel_rfl) (by kernel_rfl) ?_
                        refine TA.all1 (i := 11) (by kernel_rfl) ?_
                        refine TB.of rfl ?_
                        obtain ⟨yq171_11_1, hkq171_11_2, hj169⟩ := bind_some hj169
                        refine TO.app (k := 3) (f := cTiii) kelemB_136_138_3_24_true (by decide) rfl rfl rfl (OwnS.rd (Ent.at 0 rfl)) hkq171_11_2 (fun x c hc => by simp [Value.oneCell'] at hc ⊢; first | (obtain rfl := hc; rfl) | (rcases hc with rfl | rfl | rfl <;> rfl)) rfl rfl fun vq171_11_3 => ?_
                        refine TA.back (.inr (fun _ s => Sat.by [14, 14, 14, 14, 14, 14, 14, 14, 14, 14, 14, 13, 13] 13 2 (by kernel_rfl) s)) ?_
                        refine TA.asL (L' := (OwnS 138 3 vq171_10_1 (([(x96.2.1, x157, xq171_7_1)] : List (Int × Int × Int)).map cTiii) :: SS 22 3 1 cI v36 (hs37.set x96.2.1.toNat (.slice none 0 0)) (y39.set x96.2.1.toNat ([] : List (Int))) :: Bx b98 106 [I x96.1, I x96.2.1, I x96.2.2.1, I x96.2.2.2] :: OwnS 138 3 vq171_11_3 (yq171_11_1.map cTiii) :: OwnS 4 1 v40 (y42.map cB) :: OwnS 3 1 v43 ((y45.set x96.2.1.toNat x148).map cI) :: OwnS 28 1 v46 (y48.map cI) :: SS 22 3 1 cI v30 hs50 (y49) :: Bx b26 50 [v36] :: Bx b19 115 [v40] :: Bx b13 22 [v43] :: OwnS 3 1 v7 ((y51.set x96.2.1.toNat (w64 (x144 + 1))).map cI) :: Bx b4 80 [v46, U 0, U 0, I 0] :: Bx b3 80 [.slice none 0 0, U 0, U 0, I 0] :: Bx b2 3 [I a0] :: L)) (listed' := #[true, true, true, true, true, true, true, true, true, true, true, true, false]) (by kernel_rfl) (by kernel_rfl) ?_
                        refine TA.takeW 12 rfl rfl rfl rfl (StepS.assign rfl) (by kernel_rfl) (by kernel_rfl) (by kernel_rfl) rfl (.inr (fun _ s => Sat.by [14, 14, 14, 14, 14, 14, 14, 14, 14, 14, 14, 13, 13] 13 2 (by kernel_rfl) s)) ?_
                        cases hj169
                        refine TA.nil (by kernel_rfl) fun a w e s => ?_
                        exact ⟨vq171_11_3, e.sub (lk_of_allIn ⟨rfl, rfl, rfl, rfl, rfl, rfl, rfl, rfl, rfl, rfl, rfl, rfl, rfl, rfl, rfl, rfl, trivial⟩), s.mono fun _ => Sat.dropN 1⟩
                      · replace hj169 := cond_f hc170 hj169
                        cases hj169
                        refine TC.skip fun a w e s => ?_
                        exact ⟨v156, e.sub (lk_of_allIn ⟨rfl, rfl, rfl, rfl, rfl, rfl, rfl, rfl, rfl, rfl, rfl, rfl, rfl, rfl, rfl, rfl, trivial⟩), s⟩
                    · intro a w ⟨v168, he, hs⟩
                      refine TC.use ?_ he hs
                      refine TC.region ?_
                      refine TO.s rfl rfl rfl (StepS.move rfl) ?_
                      refine TO.s rfl rfl rfl (StepS.ari rfl rfl rfl) ?_
                      refine TO.s rfl rfl rfl (StepS.assign rfl) ?_
                      cases hb165
                      refine TO.nil fun a w e s => ?_
                      exact ⟨v168, e.sub (lk_of_allIn ⟨rfl, rfl, rfl, rfl, rfl, rfl, rfl, rfl, rfl, rfl, rfl, rfl, rfl, rfl, rfl, rfl, trivial⟩), s⟩
                  · replace hb165 := cond_f hc166 hb165
                    cases hb165
                    refine TC.exit rfl fun a w e s => ?_
                    exact ⟨v156, e.sub (lk_of_allIn ⟨rfl, rfl, rfl, rfl, rfl, rfl, rfl, rfl, rfl, rfl, rfl, rfl, rfl, rfl, rfl, trivial⟩), s⟩
                · exact fun a w e s => ⟨v33, e.sub (lk_of_allIn ⟨rfl, rfl, rfl, rfl, rfl, rfl, rfl, rfl, rfl, rfl, rfl, rfl, rfl, rfl, rfl, rfl, trivial⟩), s⟩
                · rintro y161 rfl a w ⟨v162, he, hs⟩
                  dsimp only [Ctl.on] at hj119
                  refine TC.use ?_ he hs
                  refine TC.region ?_
                  refine TO.s rfl rfl rfl (StepS.move rfl) ?_
                  refine TO.s rfl rfl rfl (StepS.fld rfl kfieldB_106_1_1_true) ?_
                  refine TO.s rfl rfl rfl (StepS.ldB rfl (Ent.at 1 rfl) kscalB_3_true rfl) ?_
                  refine TO.ghost (fun _ s => Sat.front 3 rfl s) ?_
                  refine TO.ghost (fun _ s => Sat.front 8 rfl s) ?_
                  refine TO.ghost (fun _ s => Sat.front 2 rfl s) ?_
                  refine TO.ghost (fun _ s => Sat.front 8 rfl s) ?_
                  refine TO.ghost (fun _ s => Sat.front 6 rfl s) ?_
                  refine TO.ghost (fun _ s => Sat.front 9 rfl s) ?_
                  obtain ⟨⟨r172, r173, r174⟩, hc175, hj119⟩ := bind_some hj119
                  refine TO.callOC kcallB_73_true rfl rfl rfl rfl (fun _ st => C73 (a1 := (y45.set x96.2.1.toNat x148)) (a2 := (y39.set x96.2.1.toNat ([] : List (Int)))) (a4 := y42) (Ent.at 7 rfl) hc175 st) ?_
                  rintro _ _ ⟨v176, v178, hs179, v181, rfl, rfl⟩
                  cases hj119
                  refine TO.nil fun a w e s => ?_
                  exact ⟨v162, v178, hs179, v181, v176, hs50, e.sub (lk_of_allIn ⟨rfl, rfl, rfl, rfl, rfl, rfl, rfl, rfl, rfl, rfl, rfl, rfl, rfl, rfl, trivial⟩), s.mono fun _ s => (by exact Sat.by [13, 13, 13, 13, 4, 8, 7, 13, 13, 12, 10, 12, 12, 13] 14 0 (by kernel_rfl) s)⟩
                · rintro r rfl
                  exact fun a w h => h.elim
              · replace hj119 := cond_f hc143 hj119
                refine TC.k ?_
                refine TC.region ?_
                refine TO.s rfl rfl rfl (StepS.fld rfl kfieldB_106_0_0_true) ?_
                refine TO.s rfl rfl rfl (StepS.ldB rfl (Ent.at 0 rfl) kscalB_3_true rfl) ?_
                refine TO.s rfl rfl rfl (StepS.cmp rfl rfl rfl) ?_
                refine TO.code ?_
                refine TC.cond rfl (fun hc183 => ?_) (fun hc183 => ?_)
                · replace hj119 := cond_t hc183 hj119
                  refine TC.k ?_
                  refine TC.region ?_
                  refine TO.s rfl rfl rfl (StepS.ldB rfl (Ent.at 8 rfl) kscalB_115_true rfl) ?_
                  refine TO.s rfl rfl rfl (StepS.fld rfl kfieldB_106_1_1_true) ?_
                  refine TO.s rfl rfl rfl (StepS.ldB rfl (Ent.at 0 rfl) kscalB_3_true rfl) ?_
                  obtain ⟨x184, hx185, hj119⟩ := bind_some hj119
                  refine TO.s rfl rfl rfl (StepS.idx rfl rfl (OwnS.rd (Ent.at 3 rfl)) ksliceB_115_4_1_true (idx_spec hx185).1 (idxm_lt hx185)) ?_
                  refine TO.stO (i := x96.2.1.toNat) (off := 0) (us := [.bool false]) 3 false rfl rfl rfl ksizeB_4_1_true rfl rfl rfl (idx_spec hx185).2 rfl (by simp [Value.oneCell']) rfl ?_
                  refine TO.code ?_
                  refine TC.k ?_
                  refine TC.k ?_
                  refine TC.region ?_
                  refine TO.s rfl rfl rfl (StepS.assign rfl) ?_
                  refine TO.code ?_
                  obtain ⟨o194, hw195, hj119⟩ := bind_some hj119
                  refine TC.loop hw195 (fun (y186, x188) => fun a w => ∃ v187 : Value, Mid 301 B [(2, .pointer (some ⟨b2, 0, none⟩)), (4, .pointer (some ⟨b3, 0, none⟩)), (5, .pointer (some ⟨b4, 0, none⟩)), (6, v7), (7, .pointer (some ⟨b13, 0, none⟩)), (8, .pointer (some ⟨b19, 0, none⟩)), (9, .pointer (some ⟨b26, 0, none⟩)), (10, v30), (11, v187), (12, .func (.func 73) #[] #[.pointer (some ⟨b13, 0, none⟩), .pointer (some ⟨b26, 0, none⟩), .pointer (some ⟨b2, 0, none⟩), .pointer (some ⟨b19, 0, none⟩)]), (14, .pointer (some ⟨b98, 0, none⟩)), (15, I 0), (18, I x188), (34, h1), (35, I (a1.length : Int)), (36, I x52)] (Bx b98 106 [I x96.1, I x96.2.1, I x96.2.2.1, I x96.2.2.2] :: OwnS 138 3 v187 (y186.map cTiii) :: SS 22 3 1 cI v36 hs37 (y39) :: OwnS 4 1 v40 ((y42.set x96.2.1.toNat false).map cB) :: OwnS 3 1 v43 (y45.map cI) :: OwnS 28 1 v46 (y48.map cI) :: SS 22 3 1 cI v30 hs50 (y49) :: Bx b26 50 [v36] :: Bx b19 115 [v40] :: Bx b13 22 [v43] :: OwnS 3 1 v7 (y51.map cI) :: Bx b4 80 [v46, U 0, U 0, I 0] :: Bx b3 80 [.slice none 0 0, U 0, U 0, I 0] :: Bx b2 3 [I a0] :: L) a w) (fun y192 => fun a w => ∃ v193 : Value, Mid 301 B [(2, .pointer (some ⟨b2, 0, none⟩)), (4, .pointer (some ⟨b3, 0, none⟩)), (5, .pointer (some ⟨b4, 0, none⟩)), (6, v7), (7, .pointer (some ⟨b13, 0, none⟩)), (8, .pointer (some ⟨b19, 0, none⟩)), (9, .pointer (some ⟨b26, 0, none⟩)), (10, v30), (11, v193), (12, .func (.func 73) #[] #[.pointer (some ⟨b13, 0, none⟩), .pointer (some ⟨b26, 0, none⟩), .pointer (some ⟨b2, 0, none⟩), .pointer (some ⟨b19, 0, none⟩)]), (14, .pointer (some ⟨b98, 0, none⟩)), (15, I 0), (34, h1), (35, I (a1.length : Int)), (36, I x52)] (Bx b98 106 [I x96.1, I x96.2.1, I x96.2.2.1, I x96.2.2.2] :: OwnS 138 3 v193 (y192.map cTiii) :: SS 22 3 1 cI v36 hs37 (y39) :: OwnS 4 1 v40 ((y42.set x96.2.1.toNat false).map cB) :: OwnS 3 1 v43 (y45.map cI) :: OwnS 28 1 v46 (y48.map cI) :: SS 22 3 1 cI v30 hs50 (y49) :: Bx b26 50 [v36] :: Bx b19 115 [v40] :: Bx b13 22 [v43] :: OwnS 3 1 v7 (y51.map cI) :: Bx b4 80 [v46, U 0, U 0, I 0] :: Bx b3 80 [.slice none 0 0, U 0, U 0, I 0] :: Bx b2 3 [I a0] :: L) a w) (fun (_ : Unit) _ _ => False) ?_ ?_ ?_ ?_
                  · rintro ⟨y186, x188⟩ o194r hb196 a w ⟨v187, he, hs⟩
                    dsimp only [F39_L2] at hb196
                    refine TC.use ?_ he hs
                    refine TC.k ?_
                    refine TC.k ?_
                    refine TC.region ?_
                    refine TO.s rfl rfl rfl (StepS.move rfl) ?_
                    refine TO.s rfl rfl rfl (StepS.ldB rfl (Ent.at 13 rfl) kscalB_3_true rfl) ?_
                    refine TO.s rfl rfl rfl (StepS.cmp rfl rfl rfl) ?_
                    refine TO.code ?_
                    refine TC.cond rfl (fun hc197 => ?_) (fun hc197 => ?_)
                    · replace hb196 := cond_t hc197 hb196
                      refine TC.skipk ?_
                      refine TC.k ?_
                      obtain ⟨y198, hj200, hb196⟩ := bind_some hb196
                      first | refine TC.cutM (fun a w => ∃ v199 : Value, Mid 301 B [(2, .pointer (some ⟨b2, 0, none⟩)), (4, .pointer (some ⟨b3, 0, none⟩)), (5, .pointer (some ⟨b4, 0, none⟩)), (6, v7), (7, .pointer (some ⟨b13, 0, none⟩)), (8, .pointer (some ⟨b19, 0, none⟩)), (9, .pointer (some ⟨b26, 0, none⟩)), (10, v30), (11, v199), (12, .func (.func 73) #[] #[.pointer (some ⟨b13, 0, none⟩), .pointer (some ⟨b26, 0, none⟩), .pointer (some ⟨b2, 0, none⟩), .pointer (some ⟨b19, 0, none⟩)]), (14, .pointer (some ⟨b98, 0, none⟩)), (15, I 0), (18, I x188), (34, h1), (35, I (a1.length : Int)), (36, I x52)] (Bx b98 106 [I x96.1, I x96.2.1, I x96.2.2.1, I x96.2.2.2] :: OwnS 138 3 v199 (y198.map cTiii) :: SS 22 3 1 cI v36 hs37 (y39) :: OwnS 4 1 v40 ((y42.set x96.2.1.toNat false).map cB) :: OwnS 3 1 v43 (y45.map cI) :: OwnS 28 1 v46 (y48.map cI) :: SS 22 3 1 cI v30 hs50 (y49) :: Bx b26 50 [v36] :: Bx b19 115 [v40] :: Bx b13 22 [v43] :: OwnS 3 1 v7 (y51.map cI) :: Bx b4 80 [v46, U 0, U 0, I 0] :: Bx b3 80 [.slice none 0 0, U 0, U 0, I 0] :: Bx b2 3 [I a0] :: L) a w) ?_ ?_ | refine TC.cutX (fun a w => ∃ v199 : Value, Mid 301 B [(2, .pointer (some ⟨b2, 0, none⟩)), (4, .pointer (some ⟨b3, 0, none⟩)), (5, .pointer (some ⟨b4, 0, none⟩)), (6, v7), (7, .pointer (some ⟨b13, 0, none⟩)), (8, .pointer (some ⟨b19, 0, none⟩)), (9, .pointer (some ⟨b26, 0, none⟩)), (10, v30), (11, v199), (12, .func (.func 73) #[] #[.pointer (some ⟨b13, 0, none⟩), .pointer (some ⟨b26, 0, none⟩), .pointer (some ⟨b2, 0, none⟩), .pointer (some ⟨b19, 0, none⟩)]), (14, .pointer (some ⟨b98, 0, none⟩)), (15, I 0), (18, I x188), (34, h1), (35, I (a1.length : Int)), (36, I x52)] (Bx b98 106 [I x96.1, I x96.2.1, I x96.2.2.1, I x96.2.2.2] :: OwnS 138 3 v199 (y198.map cTiii) :: SS 22 3 1 cI v36 hs37 (y39) :: OwnS 4 1 v40 ((y42.set x96.2.1.toNat false).map cB) :: OwnS 3 1 v43 (y45.map cI) :: OwnS 28 1 v46 (y48.map cI) :: SS 22 3 1 cI v30 hs50 (y49) :: Bx b26 50 [v36] :: Bx b19 115 [v40] :: Bx b13 22 [v43] :: OwnS 3 1 v7 (y51.map cI) :: Bx b4 80 [v46, U 0, U 0, I 0] :: Bx b3 80 [.slice none 0 0, U 0, U 0, I 0] :: Bx b2 3 [I a0] :: L) a w) ?_ ?_
                      · refine TC.block ?_
                        refine TC.k ?_
                        refine TC.region ?_
                        refine TO.s rfl rfl rfl (StepS.move rfl) ?_
                        refine TO.s rfl rfl rfl (StepS.fld rfl kfieldB_106_1_1_true) ?_
                        refine TO.s rfl rfl rfl (StepS.ldB rfl (Ent.at 0 rfl) kscalB_3_true rfl) ?_
                        obtain ⟨x201, hx202, hj200⟩ := bind_some hj200
                        refine TO.s rfl rfl rfl (StepS.idxRR rfl rfl (SS.rr (Ent.at 6 rfl)) ksliceB_50_22_1_true hx202) ?_
                        refine TO.s rfl rfl rfl (StepS.ldRR rfl (SS.rr (Ent.at 6 rfl)) kscalB_22_true hx202) ?_
                        refine TO.s rfl rfl rfl (StepS.move rfl) ?_
                        obtain ⟨r204, hc205, hj200⟩ := bind_some hj200
                        refine TO.q rfl rfl rfl (StepQ.call kcallB_66_true rfl rfl (fun _ st => C66 (RR.row (SS.rr (Ent.at 6 rfl)) hx202) hc205 st)) ?_
                        refine TO.code ?_
                        refine TC.cond rfl (fun hc206 => ?_) (fun hc206 => ?_)
                        · replace hj200 := cond_t hc206 hj200
                          refine TC.region ?_
                          refine TO.s rfl rfl rfl (StepS.move rfl) ?_
                          refine TO.s rfl rfl rfl (StepS.fld rfl kfieldB_106_1_1_true) ?_
                          refine TO.s rfl rfl rfl (StepS.ldB rfl (Ent.at 0 rfl) kscalB_3_true rfl) ?_
                          refine TO.s rfl rfl rfl (StepS.move rfl) ?_
                          refine TO.s rfl rfl rfl (StepS.build (cs := [I x96.2.1, I x188, I 0]) rfl (by kernel_rfl)) ?_
                          refine TO.litS (f := cTiii) ([(x96.2.1, x188, 0)] : List (Int × Int × Int)) kelemB_136_138_3_24_true kinfo_138_bind_zero_some_agg_I_0_I_0_I_0 rfl rfl (fun _ => rfl) rfl rfl (by kernel_rfl) rfl fun v207 => ?_
                          obtain ⟨y209, hk210, hj200⟩ := bind_some hj200
                          refine TO.app (k := 2) (f := cTiii) kelemB_136_138_3_24_true (by decide) rfl rfl rfl (OwnS.rd (Ent.at 0 rfl)) hk210 (fun x c hc => by simp [Value.oneCell'] at hc ⊢; first | (obtain rfl := hc; rfl) | (rcases hc with rfl | rfl | rfl <;> rfl)) rfl rfl fun v211 => ?_
                          refine TO.s rfl rfl rfl (StepS.assign rfl) ?_
                          cases hj200
                          refine TO.nil fun a w e s => ?_
                          exact ⟨v211, e.sub (lk_of_allIn ⟨rfl, rfl, rfl, rfl, rfl, rfl, rfl, rfl, rfl, rfl, rfl, rfl, rfl, rfl, rfl, rfl, trivial⟩), s.mono fun _ => Sat.dropN 1⟩
                        · replace hj200 := cond_f hc206 hj200
                          cases hj200
                          refine TC.skip fun a w e s => ?_
                          exact ⟨v187, e.sub (lk_of_allIn ⟨rfl, rfl, rfl, rfl, rfl, rfl, rfl, rfl, rfl, rfl, rfl, rfl, rfl, rfl, rfl, rfl, trivial⟩), s⟩
                      · intro a w ⟨v199, he, hs⟩
                        refine TC.use ?_ he hs
                        refine TC.region ?_
                        refine TO.s rfl rfl rfl (StepS.move rfl) ?_
                        refine TO.s rfl rfl rfl (StepS.ari rfl rfl rfl) ?_
                        refine TO.s rfl rfl rfl (StepS.assign rfl) ?_
                        cases hb196
                        refine TO.nil fun a w e s => ?_
                        exact ⟨v199, e.sub (lk_of_allIn ⟨rfl, rfl, rfl, rfl, rfl, rfl, rfl, rfl, rfl, rfl, rfl, rfl, rfl, rfl, rfl, rfl, trivial⟩), s⟩
                    · replace hb196 := cond_f hc197 hb196
                      cases hb196
                      refine TC.exit rfl fun a w e s => ?_
                      exact ⟨v187, e.sub (lk_of_allIn ⟨rfl, rfl, rfl, rfl, rfl, rfl, rfl, rfl, rfl, rfl, rfl, rfl, rfl, rfl, rfl, trivial⟩), s⟩
                  · exact fun a w e s => ⟨v33, e.sub (lk_of_allIn ⟨rfl, rfl, rfl, rfl, rfl, rfl, rfl, rfl, rfl, rfl, rfl, rfl, rfl, rfl, rfl, rfl, trivial⟩), s⟩
                  · rintro y192 rfl a w ⟨v193, he, hs⟩
                    dsimp only [Ctl.on] at hj119
                    refine TC.use ?_ he hs
                    refine TC.region ?_
                    refine TO.s rfl rfl rfl (StepS.move rfl) ?_
                    refine TO.s rfl rfl rfl (StepS.fld rfl kfieldB_106_1_1_true) ?_
                    refine TO.s rfl rfl rfl (StepS.ldB rfl (Ent.at 0 rfl) kscalB_3_true rfl) ?_
                    obtain ⟨x212, hx213, hj119⟩ := bind_some hj119
                    refine TO.s rfl rfl rfl (StepS.idxRR rfl rfl (SS.rr (Ent.at 6 rfl)) ksliceB_50_22_1_true hx213) ?_
                    refine TO.ghost (fun _ => Sat.nilS (e := 3) (sz := 1) (f := cI)) ?_
                    refine TO.ghost (fun _ s => Sat.front 7 rfl s) ?_
                    refine TO.stRow (xs := ([] : List (Int))) rfl rfl hx213 ksizeB_22_1_true ?_
                    cases hj119
                    refine TO.nil fun a w e s => ?_
                    exact ⟨v193, v36, hs37, v40, v43, (hs50.set x96.2.1.toNat (.slice none 0 0)), e.sub (lk_of_allIn ⟨rfl, rfl, rfl, rfl, rfl, rfl, rfl, rfl, rfl, rfl, rfl, rfl, rfl, rfl, trivial⟩), s.mono fun _ s => (by exact Sat.by [13, 13, 13, 13, 13, 13, 13, 7, 13, 9, 13, 13, 13, 13] 14 0 (by kernel_rfl) s)⟩
                  · rintro r rfl
                    exact fun a w h => h.elim
                · replace hj119 := cond_f hc183 hj119
                  refine TC.k ?_
                  refine TC.region ?_
                  refine TO.s rfl rfl rfl (StepS.move rfl) ?_
                  refine TO.s rfl rfl rfl (StepS.cmp rfl rfl rfl) ?_
                  refine TO.code ?_
                  refine TC.cond rfl (fun hc215 => ?_) (fun hc215 => ?_)
                  · replace hj119 := cond_t hc215 hj119
                    refine TC.region ?_
                    refine TO.s rfl rfl rfl (StepS.assign rfl) ?_
                    cases hj119
                    refine TO.nil fun a w e s => ?_
                    exact ⟨v33, v36, hs37, v40, v43, hs50, e.sub (lk_of_allIn ⟨rfl, rfl, rfl, rfl, rfl, rfl, rfl, rfl, rfl, rfl, rfl, rfl, rfl, rfl, trivial⟩), s.mono fun _ s => (by exact Sat.by [13, 13, 13, 13, 13, 13, 13, 13, 13, 9, 13, 13, 13, 13] 14 0 (by kernel_rfl) s)⟩
                  · replace hj119 := cond_f hc215 hj119
                    refine TC.k ?_
                    refine TC.region ?_
                    refine TO.s rfl rfl rfl (StepS.move rfl) ?_
                    refine TO.s rfl rfl rfl (StepS.move rfl) ?_
                    obtain ⟨x216, hx217, hj119⟩ := bind_some hj119
                    refine TO.s rfl rfl rfl (StepS.idx rfl rfl (OwnS.rd (Ent.at 1 rfl)) ksliceB_136_138_3_true (idx_spec hx217).1 (idxm_lt hx217)) ?_
                    refine TO.s rfl rfl rfl (StepS.ptrf rfl kfieldB_138_2_2_true) ?_
                    refine TO.s rfl rfl rfl (StepS.ld1 rfl (OwnS.rd (Ent.at 1 rfl)) kscalB_3_true rfl (idxm hx217) rfl) ?_
                    refine TO.s rfl rfl rfl (StepS.assign rfl) ?_
                    refine TO.code ?_
                    refine TC.k ?_
                    refine TC.region ?_
                    refine TO.s rfl rfl rfl (StepS.move rfl) ?_
                    refine TO.s rfl rfl rfl (StepS.move rfl) ?_
                    obtain ⟨r218, hc219, hj119⟩ := bind_some hj119
                    refine TO.callO kcallB_62_true rfl rfl rfl (fun _ st => C62 (OwnS.rd (Ent.at 1 rfl)) hc219 st) ?_
                    rintro v220 _ ⟨_, rfl, rfl⟩
                    refine TO.s rfl rfl rfl (StepS.assign rfl) ?_
                    refine TO.code ?_
                    refine TC.k ?_
                    refine TC.region ?_
                    refine TO.s rfl rfl rfl (StepS.fld rfl kfieldB_106_2_2_true) ?_
                    refine TO.s rfl rfl rfl (StepS.ldB rfl (Ent.at 1 rfl) kscalB_3_true rfl) ?_
                    refine TO.s rfl rfl rfl (StepS.assign rfl) ?_
                    refine TO.code ?_
                    refine TC.k ?_
                    refine TC.region ?_
                    refine TO.s rfl rfl rfl (StepS.move rfl) ?_
                    refine TO.s rfl rfl rfl (StepS.cmp rfl rfl rfl) ?_
                    refine TO.code ?_
                    refine TC.cond rfl (fun hc222 => ?_) (fun hc222 => ?_)
                    · replace hj119 := cond_t hc222 hj119
                      refine TC.k ?_
                      obtain ⟨y224, hj226, hj119⟩ := bind_some hj119
                      first | refine TC.cutM (fun a w => ∃ hs225 : List Value, Mid 301 B [(2, .pointer (some ⟨b2, 0, none⟩)), (4, .pointer (some ⟨b3, 0, none⟩)), (5, .pointer (some ⟨b4, 0, none⟩)), (6, v7), (7, .pointer (some ⟨b13, 0, none⟩)), (8, .pointer (some ⟨b19, 0, none⟩)), (9, .pointer (some ⟨b26, 0, none⟩)), (10, v30), (11, v220), (12, .func (.func 73) #[] #[.pointer (some ⟨b13, 0, none⟩), .pointer (some ⟨b26, 0, none⟩), .pointer (some ⟨b2, 0, none⟩), .pointer (some ⟨b19, 0, none⟩)]), (15, I 0), (20, I x96.2.2.1), (34, h1), (35, I (a1.length : Int)), (36, I x52)] (OwnS 138 3 v220 (r218.map cTiii) :: Bx b98 106 [I x96.1, I x96.2.1, I x96.2.2.1, I x96.2.2.2] :: OwnS 138 3 v33 (y35.map cTiii) :: SS 22 3 1 cI v36 hs225 (y224) :: OwnS 4 1 v40 (y42.map cB) :: OwnS 3 1 v43 (y45.map cI) :: OwnS 28 1 v46 (y48.map cI) :: SS 22 3 1 cI v30 hs50 (y49) :: Bx b26 50 [v36] :: Bx b19 115 [v40] :: Bx b13 22 [v43] :: OwnS 3 1 v7 (y51.map cI) :: Bx b4 80 [v46, U 0, U 0, I 0] :: Bx b3 80 [.slice none 0 0, U 0, U 0, I 0] :: Bx b2 3 [I a0] :: L) a w) ?_ ?_ | refine TC.cutX (fun a w => ∃ hs225 : List Value, Mid 301 B [(2, .pointer (some ⟨b2, 0, none⟩)), (4, .pointer (some ⟨b3, 0, none⟩)), (5, .pointer (some ⟨b4, 0, none⟩)), (6, v7), (7, .pointer (some ⟨b13, 0, none⟩)), (8, .pointer (some ⟨b19, 0, none⟩)), (9, .pointer (some ⟨b26, 0, none⟩)), (10, v30), (11, v220), (12, .func (.func 73) #[] #[.pointer (some ⟨b13, 0, none⟩), .pointer (some ⟨b26, 0, none⟩), .pointer (some ⟨b2, 0, none⟩), .pointer (some ⟨b19, 0, none⟩)]), (15, I 0), (20, I x96.2.2.1), (34, h1), (35, I (a1.length : Int)), (36, I x52)] (OwnS 138 3 v220 (r218.map cTiii) :: Bx b98 106 [I x96.1, I x96.2.1, I x96.2.2.1, I x96.2.2.2] :: OwnS 138 3 v33 (y35.map cTiii) :: SS 22 3 1 cI v36 hs225 (y224) :: OwnS 4 1 v40 (y42.map cB) :: OwnS 3 1 v43 (y45.map cI) :: OwnS 28 1 v46 (y48.map cI) :: SS 22 3 1 cI v30 hs50 (y49) :: Bx b26 50 [v36] :: Bx b19 115 [v40] :: Bx b13 22 [v43] :: OwnS 3 1 v7 (y51.map cI) :: Bx b4 80 [v46, U 0, U 0, I 0] :: Bx b3 80 [.slice none 0 0, U 0, U 0, I 0] :: Bx b2 3 [I a0] :: L) a w) ?_ ?_
                      · obtain ⟨xq223_4_1, hxq223_4_2, hj226⟩ := bind_some hj226
                        obtain ⟨yq223_9_2, hkq223_9_3, hj226⟩ := bind_some hj226
                        obtain ⟨xq223_10_1, hxq223_10_2, hj226⟩ := bind_some hj226
                        refine TC.region_any (OwnS 138 3 v220 (r218.map cTiii) :: Bx b98 106 [I x96.1, I x96.2.1, I x96.2.2.1, I x96.2.2.2] :: OwnS 138 3 v33 (y35.map cTiii) :: OwnS 4 1 v40 (y42.map cB) :: OwnS 3 1 v43 (y45.map cI) :: OwnS 28 1 v46 (y48.map cI) :: SS 22 3 1 cI v30 hs50 (y49) :: Bx b26 50 [v36] :: Bx b19 115 [v40] :: Bx b13 22 [v43] :: OwnS 3 1 v7 (y51.map cI) :: Bx b4 80 [v46, U 0, U 0, I 0] :: Bx b3 80 [.slice none 0 0, U 0, U 0, I 0] :: Bx b2 3 [I a0] :: L) 11 12 kfollows_mixedOrders_true rfl ?_
                        refine TA.take 0 rfl rfl rfl rfl (StepS.ldB rfl (Ent.at 7 rfl) kscalB_50_true rfl) (by kernel_rfl) (by kernel_rfl) (by kernel_rfl) (by kernel_rfl) (by kernel_rfl) (fun _ s => Sat.by [14, 14, 14, 14, 14, 14, 14, 14, 14, 14, 14, 13, 13, 13] 14 1 (by kernel_rfl) s) ?_
                        refine TA.takeW 1 rfl rfl rfl rfl (StepS.move rfl) (by kernel_rfl) (by kernel_rfl) (by kernel_rfl) rfl (.inr (fun _ s => Sat.by [14, 14, 14, 14, 14, 14, 14, 14, 14, 14, 14, 13, 13, 13] 14 1 (by kernel_rfl) s)) ?_
                        refine TA.take 2 rfl rfl rfl rfl (StepS.ldB rfl (Ent.at 7 rfl) kscalB_50_true rfl) (by kernel_rfl) (by kernel_rfl) (by kernel_rfl) (by kernel_rfl) (by kernel_rfl) (fun _ s => Sat.by [14, 14, 14, 14, 14, 14, 14, 14, 14, 14, 14, 13, 13, 13] 14 1 (by kernel_rfl) s) ?_
                        refine TA.takeW 3 rfl rfl rfl rfl (StepS.move rfl) (by kernel_rfl) (by kernel_rfl) (by kernel_rfl) rfl (.inr (fun _ s => Sat.by [14, 14, 14, 14, 14, 14, 14, 14, 14, 14, 14, 13, 13, 13] 14 1 (by kernel_rfl) s)) ?_
                        refine TA.takeW 6 rfl rfl rfl rfl (StepS.fld rfl kfieldB_106_1_1_true) (by kernel_rfl) (by kernel_rfl) (by kernel_rfl) rfl (.inr (fun _ s => Sat.by [14, 14, 14, 14, 14, 14, 14, 14, 14, 14, 14, 13, 13, 13] 14 1 (by kernel_rfl) s)) ?_
                        refine TA.take 7 rfl rfl rfl rfl (StepS.ldB rfl (Ent.at 1 rfl) kscalB_3_true rfl) (by kernel_rfl) (by kernel_rfl) (by kernel_rfl) (by kernel_rfl) (by kernel_rfl) (fun _ s => Sat.by [14, 14, 14, 14, 14, 14, 14, 14, 14, 14, 14, 13, 13, 13] 14 1 (by kernel_rfl) s) ?_
                        refine TA.all2 (i := 4) (j := 8) (by kernel_rfl) ?_ ?_
                        · refine TB.of rfl ?_
                          refine TO.s rfl rfl rfl (StepS.idxRR rfl rfl (SS.rr (Ent.at 3 rfl)) ksliceB_50_22_1_true hxq223_4_2) ?_
                          refine TA.back (.inr (fun _ s => Sat.by [14, 14, 14, 14, 14, 14, 14, 14, 14, 14, 14, 13, 13, 13] 14 1 (by kernel_rfl) s)) ?_
                          refine TA.asL (L' := (OwnS 138 3 v220 (r218.map cTiii) :: Bx b98 106 [I x96.1, I x96.2.1, I x96.2.2.1, I x96.2.2.2] :: OwnS 138 3 v33 (y35.map cTiii) :: SS 22 3 1 cI v36 hs37 (y39) :: OwnS 4 1 v40 (y42.map cB) :: OwnS 3 1 v43 (y45.map cI) :: OwnS 28 1 v46 (y48.map cI) :: SS 22 3 1 cI v30 hs50 (y49) :: Bx b26 50 [v36] :: Bx b19 115 [v40] :: Bx b13 22 [v43] :: OwnS 3 1 v7 (y51.map cI) :: Bx b4 80 [v46, U 0, U 0, I 0] :: Bx b3 80 [.slice none 0 0, U 0, U 0, I 0] :: Bx b2 3 [I a0] :: L)) (listed' := #[true, true, true, true, true, false, true, true, false, false, false, false]) (by kernel_rfl) (by kernel_rfl) ?_
                          refine TA.all2 (i := 5) (j := 8) (by kernel_rfl) ?_ ?_
                          · refine TB.of rfl ?_
                            refine TO.s rfl rfl rfl (StepS.ldRR rfl (SS.rr (Ent.at 3 rfl)) kscalB_22_true hxq223_4_2) ?_
                            refine TA.back (.inr (fun _ s => Sat.by [14, 14, 14, 14, 14, 14, 14, 14, 14, 14, 14, 13, 13, 13] 14 1 (by kernel_rfl) s)) ?_
                            refine TA.asL (L' := (OwnS 138 3 v220 (r218.map cTiii) :: Bx b98 106 [I x96.1, I x96.2.1, I x96.2.2.1, I x96.2.2.2] :: OwnS 138 3 v33 (y35.map cTiii) :: SS 22 3 1 cI v36 hs37 (y39) :: OwnS 4 1 v40 (y42.map cB) :: OwnS 3 1 v43 (y45.map cI) :: OwnS 28 1 v46 (y48.map cI) :: SS 22 3 1 cI v30 hs50 (y49) :: Bx b26 50 [v36] :: Bx b19 115 [v40] :: Bx b13 22 [v43] :: OwnS 3 1 v7 (y51.map cI) :: Bx b4 80 [v46, U 0, U 0, I 0] :: Bx b3 80 [.slice none 0 0, U 0, U 0, I 0] :: Bx b2 3 [I a0] :: L)) (listed' := #[true, true, true, true, true, true, true, true, false, false, false, false]) (by kernel_rfl) (by kernel_rfl) ?_
                            refine TA.all1 (i := 8) (by kernel_rfl) ?_
                            refine TB.of rfl ?_
                            refine TO.litS (f := cI) ([x96.2.1] : List Int) kelemB_22_3_1_8_true kinfo_3_bind_zero_some_I_0 rfl rfl (fun _ => rfl) rfl rfl (by kernel_rfl) rfl fun vq223_8_1 => ?_
                            refine TA.back (.inr (fun _ s => Sat.by [15, 15, 15, 15, 15, 15, 15, 15, 15, 15, 15, 14, 14, 14] 14 2 (by kernel_rfl) s)) ?_
                            refine TA.asL (L' := (OwnS 3 1 vq223_8_1 (([x96.2.1] : List Int).map cI) :: OwnS 138 3 v220 (r218.map cTiii) :: Bx b98 106 [I x96.1, I x96.2.1, I x96.2.2.1, I x96.2.2.2] :: OwnS 138 3 v33 (y35.map cTiii) :: SS 22 3 1 cI v36 hs37 (y39) :: OwnS 4 1 v40 (y42.map cB) :: OwnS 3 1 v43 (y45.map cI) :: OwnS 28 1 v46 (y48.map cI) :: SS 22 3 1 cI v30 hs50 (y49) :: Bx b26 50 [v36] :: Bx b19 115 [v40] :: Bx b13 22 [v43] :: OwnS 3 1 v7 (y51.map cI) :: Bx b4 80 [v46, U 0, U 0, I 0] :: Bx b3 80 [.slice none 0 0, U 0, U 0, I 0] :: Bx b2 3 [I a0] :: L)) (listed' := #[true, true, true, true, true, true, true, true, true, false, false, false]) (by kernel_rfl) (by kernel_rfl) ?_
                            refine TA.all1 (i := 9) (by kernel_rfl) ?_
                            refine TB.of rfl ?_
                            refine TO.ghost (fun _ s => Sat.front 4 rfl s) ?_
                            refine TO.ghost (fun _ s => Sat.openRow hxq223_4_2 s) ?_
                            refine TO.app (k := 0) (f := cI) kelemB_22_3_1_8_true (by decide) rfl rfl rfl (OwnS.rd (Ent.at 2 rfl)) hkq223_9_3 (fun x c hc => by simp [Value.oneCell'] at hc ⊢; first | (obtain rfl := hc; rfl) | (rcases hc with rfl <;> rfl)) rfl rfl fun vq223_9_4 => ?_
                            refine TA.back (.inr (fun _ s => Sat.by [16, 16, 16, 16, 16, 16, 16, 16, 16, 16, 16, 16, 16, 16] 14 3 (by kernel_rfl) s)) ?_
                            refine TA.asL (L' := (OwnS 3 1 vq223_9_4 (yq223_9_2.map cI) :: SSh 22 3 1 cI v36 hs37 (y39) x96.2.2.1.toNat :: OwnS 3 1 vq223_8_1 (([x96.2.1] : List Int).map cI) :: OwnS 138 3 v220 (r218.map cTiii) :: Bx b98 106 [I x96.1, I x96.2.1, I x96.2.2.1, I x96.2.2.2] :: OwnS 138 3 v33 (y35.map cTiii) :: OwnS 4 1 v40 (y42.map cB) :: OwnS 3 1 v43 (y45.map cI) :: OwnS 28 1 v46 (y48.map cI) :: SS 22 3 1 cI v30 hs50 (y49) :: Bx b26 50 [v36] :: Bx b19 115 [v40] :: Bx b13 22 [v43] :: OwnS 3 1 v7 (y51.map cI) :: Bx b4 80 [v46, U 0, U 0, I 0] :: Bx b3 80 [.slice none 0 0, U 0, U 0, I 0] :: Bx b2 3 [I a0] :: L)) (listed' := #[true, true, true, true, true, true, true, true, true, true, false, false]) (by kernel_rfl) (by kernel_rfl) ?_
                            refine TA.all1 (i := 10) (by kernel_rfl) ?_
                            refine TB.of rfl ?_
                            refine TO.s rfl rfl rfl (StepS.idxRH rfl rfl (Ent.at 1 rfl) ksliceB_50_22_1_true hxq223_10_2) ?_
                            refine TA.back (.inr (fun _ s => Sat.by [16, 16, 16, 16, 16, 16, 16, 16, 16, 16, 16, 16, 16, 16] 14 3 (by kernel_rfl) s)) ?_
                            refine TA.asL (L' := (OwnS 3 1 vq223_9_4 (yq223_9_2.map cI) :: SSh 22 3 1 cI v36 hs37 (y39) x96.2.2.1.toNat :: OwnS 3 1 vq223_8_1 (([x96.2.1] : List Int).map cI) :: OwnS 138 3 v220 (r218.map cTiii) :: Bx b98 106 [I x96.1, I x96.2.1, I x96.2.2.1, I x96.2.2.2] :: OwnS 138 3 v33 (y35.map cTiii) :: OwnS 4 1 v40 (y42.map cB) :: OwnS 3 1 v43 (y45.map cI) :: OwnS 28 1 v46 (y48.map cI) :: SS 22 3 1 cI v30 hs50 (y49) :: Bx b26 50 [v36] :: Bx b19 115 [v40] :: Bx b13 22 [v43] :: OwnS 3 1 v7 (y51.map cI) :: Bx b4 80 [v46, U 0, U 0, I 0] :: Bx b3 80 [.slice none 0 0, U 0, U 0, I 0] :: Bx b2 3 [I a0] :: L)) (listed' := #[true, true, true, true, true, true, true, true, true, true, true, false]) (by kernel_rfl) (by kernel_rfl) ?_
                            refine TA.all1 (i := 11) (by kernel_rfl) ?_
                            refine TB.of rfl ?_
                            refine TO.ghost (fun _ s => Sat.front 1 rfl s) ?_
                            refine TO.stRowH (xs := yq223_9_2) rfl rfl hxq223_10_2 ksizeB_22_1_true ?_
                            refine TA.back (.inl (by kernel_rfl)) ?_
                            refine TA.asL (L' := (SS 22 3 1 cI v36 (hs37.set x96.2.2.1.toNat vq223_9_4) (y39.set x96.2.2.1.toNat yq223_9_2) :: OwnS 3 1 vq223_8_1 (([x96.2.1] : List Int).map cI) :: OwnS 138 3 v220 (r218.map cTiii) :: Bx b98 106 [I x96.1, I x96.2.1, I x96.2.2.1, I x96.2.2.2] :: OwnS 138 3 v33 (y35.map cTiii) :: OwnS 4 1 v40 (y42.map cB) :: OwnS 3 1 v43 (y45.map cI) :: OwnS 28 1 v46 (y48.map cI) :: SS 22 3 1 cI v30 hs50 (y49) :: Bx b26 50 [v36] :: Bx b19 115 [v40] :: Bx b13 22 [v43] :: OwnS 3 1 v7 (y51.map cI) :: Bx b4 80 [v46, U 0, U 0, I 0] :: Bx b3 80 [.slice none 0 0, U 0, U 0, I 0] :: Bx b2 3 [I a0] :: L)) (listed' := #[true, true, true, true, true, true, true, true, true, true, true, true]) (by kernel_rfl) (by kernel_rfl) ?_
                            cases hj226
                            refine TA.nil (by kernel_rfl) fun a w e s => ?_
                            exact ⟨(hs37.set x96.2.2.1.toNat vq223_9_4), e.sub (lk_of_allIn ⟨rfl, rfl, rfl, rfl, rfl, rfl, rfl, rfl, rfl, rfl, rfl, rfl, rfl, rfl, rfl, trivial⟩), s.mono fun _ s => (by exact Sat.by [15, 15, 15, 15, 15, 15, 15, 15, 15, 15, 15, 11, 15, 15, 15] 15 1 (by kernel_rfl) s)⟩
                          · refine TB.of rfl ?_
                            refine TO.litS (f := cI) ([x96.2.1] : List Int) kelemB_22_3_1_8_true kinfo_3_bind_zero_some_I_0 rfl rfl (fun _ => rfl) rfl rfl (by kernel_rfl) rfl fun vq223_8_1 => ?_
                            refine TA.back (.inr (fun _ s => Sat.by [15, 15, 15, 15, 15, 15, 15, 15, 15, 15, 15, 14, 14, 14] 14 2 (by kernel_rfl) s)) ?_
                            refine TA.asL (L' := (OwnS 3 1 vq223_8_1 (([x96.2.1] : List Int).map cI) :: OwnS 138 3 v220 (r218.map cTiii) :: Bx b98 106 [I x96.1, I x96.2.1, I x96.2.2.1, I x96.2.2.2] :: OwnS 138 3 v33 (y35.map cTiii) :: SS 22 3 1 cI v36 hs37 (y39) :: OwnS 4 1 v40 (y42.map cB) :: OwnS 3 1 v43 (y45.map cI) :: OwnS 28 1 v46 (y48.map cI) :: SS 22 3 1 cI v30 hs50 (y49) :: Bx b26 50 [v36] :: Bx b19 115 [v40] :: Bx b13 22 [v43] :: OwnS 3 1 v7 (y51.map cI) :: Bx b4 80 [v46, U 0, U 0, I 0] :: Bx b3 80 [.slice none 0 0, U 0, U 0, I 0] :: Bx b2 3 [I a0] :: L)) (listed' := #[true, true, true, true, true, false, true, true, true, false, false, false]) (by kernel_rfl) (by kernel_rfl) ?_
                            refine TA.all1 (i := 5) (by kernel_rfl) ?_
                            refine TB.of rfl ?_
                            refine TO.s rfl rfl rfl (StepS.ldRR rfl (SS.rr (Ent.at 4 rfl)) kscalB_22_true hxq223_4_2) ?_
                            refine TA.back (.inr (fun _ s => Sat.by [15, 15, 15, 15, 15, 15, 15, 15, 15, 15, 15, 14, 14, 14] 14 2 (by kernel_rfl) s)) ?_
                            refine TA.asL (L' := (OwnS 3 1 vq223_8_1 (([x96.2.1] : List Int).map cI) :: OwnS 138 3 v220 (r218.map cTiii) :: Bx b98 106 [I x96.1, I x96.2.1, I x96.2.2.1, I x96.2.2.2] :: OwnS 138 3 v33 (y35.map cTiii) :: SS 22 3 1 cI v36 hs37 (y39) :: OwnS 4 1 v40 (y42.map cB) :: OwnS 3 1 v43 (y45.map cI) :: OwnS 28 1 v46 (y48.map cI) :: SS 22 3 1 cI v30 hs50 (y49) :: Bx b26 50 [v36] :: Bx b19 115 [v40] :: Bx b13 22 [v43] :: OwnS 3 1 v7 (y51.map cI) :: Bx b4 80 [v46, U 0, U 0, I 0] :: Bx b3 80 [.slice none 0 0, U 0, U 0, I 0] :: Bx b2 3 [I a0] :: L)) (listed' := #[true, true, true, true, true, true, true, true, true, false, false, false]) (by kernel_rfl) (by kernel_rfl) ?_
                            refine TA.all1 (i := 9) (by kernel_rfl) ?_
                            refine TB.of rfl ?_
                            refine TO.ghost (fun _ s => Sat.front 4 rfl s) ?_
                            refine TO.ghost (fun _ s => Sat.openRow hxq223_4_2 s) ?_
                            refine TO.app (k := 0) (f := cI) kelemB_22_3_1_8_true (by decide) rfl rfl rfl (OwnS.rd (Ent.at 2 rfl)) hkq223_9_3 (fun x c hc => by simp [Value.oneCell'] at hc ⊢; first | (obtain rfl := hc; rfl) | (rcases hc with rfl <;> rfl)) rfl rfl fun vq223_9_4 => ?_
                            refine TA.back (.inr (fun _ s => Sat.by [16, 16, 16, 16, 16, 16, 16, 16, 16, 16, 16, 16, 16, 16] 14 3 (by kernel_rfl) s)) ?_
                            refine TA.asL (L' := (OwnS 3 1 vq223_9_4 (yq223_9_2.map cI) :: SSh 22 3 1 cI v36 hs37 (y39) x96.2.2.1.toNat :: OwnS 3 1 vq223_8_1 (([x96.2.1] : List Int).map cI) :: OwnS 138 3 v220 (r218.map cTiii) :: Bx b98 106 [I x96.1, I x96.2.1, I x96.2.2.1, I x96.2.2.2] :: OwnS 138 3 v33 (y35.map cTiii) :: OwnS 4 1 v40 (y42.map cB) :: OwnS 3 1 v43 (y45.map cI) :: OwnS 28 1 v46 (y48.map cI) :: SS 22 3 1 cI v30 hs50 (y49) :: Bx b26 50 [v36] :: Bx b19 115 [v40] :: Bx b13 22 [v43] :: OwnS 3 1 v7 (y51.map cI) :: Bx b4 80 [v46, U 0, U 0, I 0] :: Bx b3 80 [.slice none 0 0, U 0, U 0, I 0] :: Bx b2 3 [I a0] :: L)) (listed' := #[true, true, true, true, true, true, true, true, true, true, false, false]) (by kernel_rfl) (by kernel_rfl) ?_
                            refine TA.all1 (i := 10) (by kernel_rfl) ?_
                            refine TB.of rfl ?_
                            refine TO.s rfl rfl rfl (StepS.idxRH rfl rfl (Ent.at 1 rfl) ksliceB_50_22_1_true hxq223_10_2) ?_
                            refine TA.back (.inr (fun _ s => Sat.by [16, 16, 16, 16, 16, 16, 16, 16, 16, 16, 16, 16, 16, 16] 14 3 (by kernel_rfl) s)) ?_
                            refine TA.asL (L' := (OwnS 3 1 vq223_9_4 (yq223_9_2.map cI) :: SSh 22 3 1 cI v36 hs37 (y39) x96.2.2.1.toNat :: OwnS 3 1 vq223_8_1 (([x96.2.1] : List Int).map cI) :: OwnS 138 3 v220 (r218.map cTiii) :: Bx b98 106 [I x96.1, I x96.2.1, I x96.2.2.1, I x96.2.2.2] :: OwnS 138 3 v33 (y35.map cTiii) :: OwnS 4 1 v40 (y42.map cB) :: OwnS 3 1 v43 (y45.map cI) :: OwnS 28 1 v46 (y48.map cI) :: SS 22 3 1 cI v30 hs50 (y49) :: Bx b26 50 [v36] :: Bx b19 115 [v40] :: Bx b13 22 [v43] :: OwnS 3 1 v7 (y51.map cI) :: Bx b4 80 [v46, U 0, U 0, I 0] :: Bx b3 80 [.slice none 0 0, U 0, U 0, I 0] :: Bx b2 3 [I a0] :: L)) (listed' := #[true, true, true, true, true, true, true, true, true, true, true, false]) (by kernel_rfl) (by kernel_rfl) ?_
                            refine TA.all1 (i := 11) (by kernel_rfl) ?_
                            refine TB.of rfl ?_
                            refine TO.ghost (fun _ s => Sat.front 1 rfl s) ?_
                            refine TO.stRowH (xs := yq223_9_2) rfl rfl hxq223_10_2 ksizeB_22_1_true ?_
                            refine TA.back (.inl (by kernel_rfl)) ?_
                            refine TA.asL (L' := (SS 22 3 1 cI v36 (hs37.set x96.2.2.1.toNat vq223_9_4) (y39.set x96.2.2.1.toNat yq223_9_2) :: OwnS 3 1 vq223_8_1 (([x96.2.1] : List Int).map cI) :: OwnS 138 3 v220 (r218.map cTiii) :: Bx b98 106 [I x96.1, I x96.2.1, I x96.2.2.1, I x96.2.2.2] :: OwnS 138 3 v33 (y35.map cTiii) :: OwnS 4 1 v40 (y42.map cB) :: OwnS 3 1 v43 (y45.map cI) :: OwnS 28 1 v46 (y48.map cI) :: SS 22 3 1 cI v30 hs50 (y49) :: Bx b26 50 [v36] :: Bx b19 115 [v40] :: Bx b13 22 [v43] :: OwnS 3 1 v7 (y51.map cI) :: Bx b4 80 [v46, U 0, U 0, I 0] :: Bx b3 80 [.slice none 0 0, U 0, U 0, I 0] :: Bx b2 3 [I a0] :: L)) (listed' := #[true, true, true, true, true, true, true, true, true, true, true, true]) (by kernel_rfl) (by kernel_rfl) ?_
                            cases hj226
                            refine TA.nil (by kernel_rfl) fun a w e s => ?_
                            exact ⟨(hs37.set x96.2.2.1.toNat vq223_9_4), e.sub (lk_of_allIn ⟨rfl, rfl, rfl, rfl, rfl, rfl, rfl, rfl, rfl, rfl, rfl, rfl, rfl, rfl, rfl, trivial⟩), s.mono fun _ s => (by exact Sat.by [15, 15, 15, 15, 15, 15, 15, 15, 15, 15, 15, 11, 15, 15, 15] 15 1 (by kernel_rfl) s)⟩
                        · refine TB.of rfl ?_
                          refine TO.litS (f := cI) ([x96.2.1] : List Int) kelemB_22_3_1_8_true kinfo_3_bind_zero_some_I_0 rfl rfl (fun _ => rfl) rfl rfl (by kernel_rfl) rfl fun vq223_8_1 => ?_
                          refine TA.back (.inr (fun _ s => Sat.by [15, 15, 15, 15, 15, 15, 15, 15, 15, 15, 15, 14, 14, 14] 14 2 (by kernel_rfl) s)) ?_
                          refine TA.asL (L' := (OwnS 3 1 vq223_8_1 (([x96.2.1] : List Int).map cI) :: OwnS 138 3 v220 (r218.map cTiii) :: Bx b98 106 [I x96.1, I x96.2.1, I x96.2.2.1, I x96.2.2.2] :: OwnS 138 3 v33 (y35.map cTiii) :: SS 22 3 1 cI v36 hs37 (y39) :: OwnS 4 1 v40 (y42.map cB) :: OwnS 3 1 v43 (y45.map cI) :: OwnS 28 1 v46 (y48.map cI) :: SS 22 3 1 cI v30 hs50 (y49) :: Bx b26 50 [v36] :: Bx b19 115 [v40] :: Bx b13 22 [v43] :: OwnS 3 1 v7 (y51.map cI) :: Bx b4 80 [v46, U 0, U 0, I 0] :: Bx b3 80 [.slice none 0 0, U 0, U 0, I 0] :: Bx b2 3 [I a0] :: L)) (listed' := #[true, true, true, true, false, false, true, true, true, false, false, false]) (by kernel_rfl) (by kernel_rfl) ?_
                          refine TA.all1 (i := 4) (by kernel_rfl) ?_
                          refine TB.of rfl ?_
                          refine TO.s rfl rfl rfl (StepS.idxRR rfl rfl (SS.rr (Ent.at 4 rfl)) ksliceB_50_22_1_true hxq223_4_2) ?_
                          refine TA.back (.inr (fun _ s => Sat.by [15, 15, 15, 15, 15, 15, 15, 15, 15, 15, 15, 14, 14, 14] 14 2 (by kernel_rfl) s)) ?_
                          refine TA.asL (L' := (OwnS 3 1 vq223_8_1 (([x96.2.1] : List Int).map cI) :: OwnS 138 3 v220 (r218.map cTiii) :: Bx b98 106 [I x96.1, I x96.2.1, I x96.2.2.1, I x96.2.2.2] :: OwnS 138 3 v33 (y35.map cTiii) :: SS 22 3 1 cI v36 hs37 (y39) :: OwnS 4 1 v40 (y42.map cB) :: OwnS 3 1 v43 (y45.map cI) :: OwnS 28 1 v46 (y48.map cI) :: SS 22 3 1 cI v30 hs50 (y49) :: Bx b26 50 [v36] :: Bx b19 115 [v40] :: Bx b13 22 [v43] :: OwnS 3 1 v7 (y51.map cI) :: Bx b4 80 [v46, U 0, U 0, I 0] :: Bx b3 80 [.slice none 0 0, U 0, U 0, I 0] :: Bx b2 3 [I a0] :: L)) (listed' := #[true, true, true, true, true, false, true, true, true, false, false, false]) (by kernel_rfl) (by kernel_rfl) ?_
                          refine TA.all1 (i := 5) (by kernel_rfl) ?_
                          refine TB.of rfl ?_
                          refine TO.s rfl rfl rfl (StepS.ldRR rfl (SS.rr (Ent.at 4 rfl)) kscalB_22_true hxq223_4_2) ?_
                          refine TA.back (.inr (fun _ s => Sat.by [15, 15, 15, 15, 15, 15, 15, 15, 15, 15, 15, 14, 14, 14] 14 2 (by kernel_rfl) s)) ?_
                          refine TA.asL (L' := (OwnS 3 1 vq223_8_1 (([x96.2.1] : List Int).map cI) :: OwnS 138 3 v220 (r218.map cTiii) :: Bx b98 106 [I x96.1, I x96.2.1, I x96.2.2.1, I x96.2.2.2] :: OwnS 138 3 v33 (y35.map cTiii) :: SS 22 3 1 cI v36 hs37 (y39) :: OwnS 4 1 v40 (y42.map cB) :: OwnS 3 1 v43 (y45.map cI) :: OwnS 28 1 v46 (y48.map cI) :: SS 22 3 1 cI v30 hs50 (y49) :: Bx b26 50 [v36] :: Bx b19 115 [v40] :: Bx b13 22 [v43] :: OwnS 3 1 v7 (y51.map cI) :: Bx b4 80 [v46, U 0, U 0, I 0] :: Bx b3 80 [.slice none 0 0, U 0, U 0, I 0] :: Bx b2 3 [I a0] :: L)) (listed' := #[true, true, true, true, true, true, true, true, true, false, false, false]) (by kernel_rfl) (by kernel_rfl) ?_
                          refine TA.all1 (i := 9) (by kernel_rfl) ?_
                          refine TB.of rfl ?_
                          refine TO.ghost (fun _ s => Sat.front 4 rfl s) ?_
                          refine TO.ghost (fun _ s => Sat.openRow hxq223_4_2 s) ?_
                          refine TO.app (k := 0) (f := cI) kelemB_22_3_1_8_true (by decide) rfl rfl rfl (OwnS.rd (Ent.at 2 rfl)) hkq223_9_3 (fun x c hc => by simp [Value.oneCell'] at hc ⊢; first | (obtain rfl := hc; rfl) | (rcases hc with rfl <;> rfl)) rfl rfl fun vq223_9_4 => ?_
                          refine TA.back (.inr (fun _ s => Sat.by [16, 16, 16, 16, 16, 16, 16, 16, 16, 16, 16, 16, 16, 16] 14 3 (by kernel_rfl) s)) ?_
                          refine TA.asL (L' := (OwnS 3 1 vq223_9_4 (yq223_9_2.map cI) :: SSh 22 3 1 cI v36 hs37 (y39) x96.2.2.1.toNat :: OwnS 3 1 vq223_8_1 (([x96.2.1] : List Int).map cI) :: OwnS 138 3 v220 (r218.map cTiii) :: Bx b98 106 [I x96.1, I x96.2.1, I x96.2.2.1, I x96.2.2.2] :: OwnS 138 3 v33 (y35.map cTiii) :: OwnS 4 1 v40 (y42.map cB) :: OwnS 3 1 v43 (y45.map cI) :: OwnS 28 1 v46 (y48.map cI) :: SS 22 3 1 cI v30 hs50 (y49) :: Bx b26 50 [v36] :: Bx b19 115 [v40] :: Bx b13 22 [v43] :: OwnS 3 1 v7 (y51.map cI) :: Bx b4 80 [v46, U 0, U 0, I 0] :: Bx b3 80 [.slice none 0 0, U 0, U 0, I 0] :: Bx b2 3 [I a0] :: L)) (listed' := #[true, true, true, true, true, true, true, true, true, true, false, false]) (by kernel_rfl) (by kernel_rfl) ?_
                          refine TA.all1 (i := 10) (by kernel_rfl) ?_
                          refine TB.of rfl ?_
                          refine TO.s rfl rfl rfl (StepS.idxRH rfl rfl (Ent.at 1 rfl) ksliceB_50_22_1_true hxq223_10_2) ?_
                          refine TA.back (.inr (fun _ s => Sat.by [16, 16, 16, 16, 16, 16, 16, 16, 16, 16, 16, 16, 16, 16] 14 3 (by kernel_rfl) s)) ?_
                          refine TA.asL (L' := (OwnS 3 1 vq223_9_4 (yq223_9_2.map cI) :: SSh 22 3 1 cI v36 hs37 (y39) x96.2.2.1.toNat :: OwnS 3 1 vq223_8_1 (([x96.2.1] : List Int).map cI) :: OwnS 138 3 v220 (r218.map cTiii) :: Bx b98 106 [I x96.1, I x96.2.1, I x96.2.2.1, I x96.2.2.2] :: OwnS 138 3 v33 (y35.map cTiii) :: OwnS 4 1 v40 (y42.map cB) :: OwnS 3 1 v43 (y45.map cI) :: OwnS 28 1 v46 (y48.map cI) :: SS 22 3 1 cI v30 hs50 (y49) :: Bx b26 50 [v36] :: Bx b19 115 [v40] :: Bx b13 22 [v43] :: OwnS 3 1 v7 (y51.map cI) :: Bx b4 80 [v46, U 0, U 0, I 0] :: Bx b3 80 [.slice none 0 0, U 0, U 0, I 0] :: Bx b2 3 [I a0] :: L)) (listed' := #[true, true, true, true, true, true, true, true, true, true, true, false]) (by kernel_rfl) (by kernel_rfl) ?_
                          refine TA.all1 (i := 11) (by kernel_rfl) ?_
                          refine TB.of rfl ?_
                          refine TO.ghost (fun _ s => Sat.front 1 rfl s) ?_
                          refine TO.stRowH (xs := yq223_9_2) rfl rfl hxq223_10_2 ksizeB_22_1_true ?_
                          refine TA.back (.inl (by kernel_rfl)) ?_
                          refine TA.asL (L' := (SS 22 3 1 cI v36 (hs37.set x96.2.2.1.toNat vq223_9_4) (y39.set x96.2.2.1.toNat yq223_9_2) :: OwnS 3 1 vq223_8_1 (([x96.2.1] : List Int).map cI) :: OwnS 138 3 v220 (r218.map cTiii) :: Bx b98 106 [I x96.1, I x96.2.1, I x96.2.2.1, I x96.2.2.2] :: OwnS 138 3 v33 (y35.map cTiii) :: OwnS 4 1 v40 (y42.map cB) :: OwnS 3 1 v43 (y45.map cI) :: OwnS 28 1 v46 (y48.map cI) :: SS 22 3 1 cI v30 hs50 (y49) :: Bx b26 50 [v36] :: Bx b19 115 [v40] :: Bx b13 22 [v43] :: OwnS 3 1 v7 (y51.map cI) :: Bx b4 80 [v46, U 0, U 0, I 0] :: Bx b3 80 [.slice none 0 0, U 0, U 0, I 0] :: Bx b2 3 [I a0] :: L)) (listed' := #[true, true, true, true, true, true, true, true, true, true, true, true]) (by kernel_rfl) (by kernel_rfl) ?_
                          cases hj226
                          refine TA.nil (by kernel_rfl) fun a w e s => ?_
                          exact ⟨(hs37.set x96.2.2.1.toNat vq223_9_4), e.sub (lk_of_allIn ⟨rfl, rfl, rfl, rfl, rfl, rfl, rfl, rfl, rfl, rfl, rfl, rfl, rfl, rfl, rfl, trivial⟩), s.mono fun _ s => (by exact Sat.by [15, 15, 15, 15, 15, 15, 15, 15, 15, 15, 15, 11, 15, 15, 15] 15 1 (by kernel_rfl) s)⟩
                      · intro a w ⟨hs225, he, hs⟩
                        refine TC.use ?_ he hs
                        refine TC.region ?_
                        refine TO.s rfl rfl rfl (StepS.move rfl) ?_
                        refine TO.s rfl rfl rfl (StepS.move rfl) ?_
                        refine TO.ghost (fun _ s => Sat.front 4 rfl s) ?_
                        refine TO.ghost (fun _ s => Sat.front 9 rfl s) ?_
                        refine TO.ghost (fun _ s => Sat.front 5 rfl s) ?_
                        refine TO.ghost (fun _ s => Sat.front 9 rfl s) ?_
                        refine TO.ghost (fun _ s => Sat.front 7 rfl s) ?_
                        refine TO.ghost (fun _ s => Sat.front 10 rfl s) ?_
                        obtain ⟨⟨r227, r228, r229⟩, hc230, hj119⟩ := bind_some hj119
                        refine TO.callOC kcallB_73_true rfl rfl rfl rfl (fun _ st => C73 (a1 := y45) (a2 := y224) (a4 := y42) (Ent.at 8 rfl) hc230 st) ?_
                        rintro _ _ ⟨v231, v233, hs234, v236, rfl, rfl⟩
                        cases hj119
                        refine TO.nil fun a w e s => ?_
                        exact ⟨v220, v233, hs234, v236, v231, hs50, e.sub (lk_of_allIn ⟨rfl, rfl, rfl, rfl, rfl, rfl, rfl, rfl, rfl, rfl, rfl, rfl, rfl, rfl, trivial⟩), s.mono fun _ s => (by exact Sat.by [14, 14, 14, 14, 4, 8, 7, 14, 14, 13, 10, 12, 12, 13] 14 1 (by kernel_rfl) s)⟩
                    · replace hj119 := cond_f hc222 hj119
                      refine TC.k ?_
                      refine TC.k ?_
                      refine TC.region ?_
                      refine TO.s rfl rfl rfl (StepS.move rfl) ?_
                      refine TO.s rfl rfl rfl (StepS.move rfl) ?_
                      obtain ⟨x238, hx239, hj119⟩ := bind_some hj119
                      refine TO.s rfl rfl rfl (StepS.idx rfl rfl (OwnS.rd (Ent.at 11 rfl)) ksliceB_22_3_1_true (idx_spec hx239).1 (idxm_lt hx239)) ?_
                      refine TO.s rfl rfl rfl (StepS.ld0 rfl (OwnS.rd (Ent.at 11 rfl)) kscalB_3_true rfl (idxm hx239) rfl) ?_
                      refine TO.s rfl rfl rfl (StepS.move rfl) ?_
                      refine TO.s rfl rfl rfl (StepS.cmp rfl rfl rfl) ?_
                      refine TO.code ?_
                      obtain ⟨y240, hj241, hj119⟩ := bind_some hj119
                      first | refine TC.cutM (fun a w => Mid 301 B [(2, .pointer (some ⟨b2, 0, none⟩)), (4, .pointer (some ⟨b3, 0, none⟩)), (5, .pointer (some ⟨b4, 0, none⟩)), (6, v7), (7, .pointer (some ⟨b13, 0, none⟩)), (8, .pointer (some ⟨b19, 0, none⟩)), (9, .pointer (some ⟨b26, 0, none⟩)), (10, v30), (11, v220), (12, .func (.func 73) #[] #[.pointer (some ⟨b13, 0, none⟩), .pointer (some ⟨b26, 0, none⟩), .pointer (some ⟨b2, 0, none⟩), .pointer (some ⟨b19, 0, none⟩)]), (14, .pointer (some ⟨b98, 0, none⟩)), (15, I 0), (19, I x216.2.2), (20, I x96.2.2.1), (34, h1), (35, I (a1.length : Int)), (36, I x52)] (OwnS 138 3 v220 (r218.map cTiii) :: Bx b98 106 [I x96.1, I x96.2.1, I x96.2.2.1, I x96.2.2.2] :: OwnS 138 3 v33 (y35.map cTiii) :: SS 22 3 1 cI v36 hs37 (y39) :: OwnS 4 1 v40 (y42.map cB) :: OwnS 3 1 v43 (y45.map cI) :: OwnS 28 1 v46 (y48.map cI) :: SS 22 3 1 cI v30 hs50 (y49) :: Bx b26 50 [v36] :: Bx b19 115 [v40] :: Bx b13 22 [v43] :: OwnS 3 1 v7 (y240.map cI) :: Bx b4 80 [v46, U 0, U 0, I 0] :: Bx b3 80 [.slice none 0 0, U 0, U 0, I 0] :: Bx b2 3 [I a0] :: L) a w) ?_ ?_ | refine TC.cutX (fun a w => Mid 301 B [(2, .pointer (some ⟨b2, 0, none⟩)), (4, .pointer (some ⟨b3, 0, none⟩)), (5, .pointer (some ⟨b4, 0, none⟩)), (6, v7), (7, .pointer (some ⟨b13, 0, none⟩)), (8, .pointer (some ⟨b19, 0, none⟩)), (9, .pointer (some ⟨b26, 0, none⟩)), (10, v30), (11, v220), (12, .func (.func 73) #[] #[.pointer (some ⟨b13, 0, none⟩), .pointer (some ⟨b26, 0, none⟩), .pointer (some ⟨b2, 0, none⟩), .pointer (some ⟨b19, 0, none⟩)]), (14, .pointer (some ⟨b98, 0, none⟩)), (15, I 0), (19, I x216.2.2), (20, I x96.2.2.1), (34, h1), (35, I (a1.length : Int)), (36, I x52)] (OwnS 138 3 v220 (r218.map cTiii) :: Bx b98 106 [I x96.1, I x96.2.1, I x96.2.2.1, I x96.2.2.2] :: OwnS 138 3 v33 (y35.map cTiii) :: SS 22 3 1 cI v36 hs37 (y39) :: OwnS 4 1 v40 (y42.map cB) :: OwnS 3 1 v43 (y45.map cI) :: OwnS 28 1 v46 (y48.map cI) :: SS 22 3 1 cI v30 hs50 (y49) :: Bx b26 50 [v36] :: Bx b19 115 [v40] :: Bx b13 22 [v43] :: OwnS 3 1 v7 (y240.map cI) :: Bx b4 80 [v46, U 0, U 0, I 0] :: Bx b3 80 [.slice none 0 0, U 0, U 0, I 0] :: Bx b2 3 [I a0] :: L) a w) ?_ ?_
                      · refine TC.cond rfl (fun hc242 => ?_) (fun hc242 => ?_)
                        · replace hj241 := cond_t hc242 hj241
                          refine TC.region ?_
                          refine TO.s rfl rfl rfl (StepS.move rfl) ?_
                          refine TO.s rfl rfl rfl (StepS.move rfl) ?_
                          refine TO.s rfl rfl rfl (StepS.move rfl) ?_
                          obtain ⟨x243, hx244, hj241⟩ := bind_some hj241
                          refine TO.s rfl rfl rfl (StepS.idx rfl rfl (OwnS.rd (Ent.at 11 rfl)) ksliceB_22_3_1_true (idx_spec hx244).1 (idxm_lt hx244)) ?_
                          refine TO.stO (i := x96.2.2.1.toNat) (off := 0) (us := [I x216.2.2]) 11 x216.2.2 rfl rfl rfl ksizeB_3_1_true rfl rfl rfl (idx_spec hx244).2 rfl (by simp [Value.oneCell']) rfl ?_
                          cases hj241
                          refine TO.nil fun a w e s => ?_
                          exact ⟨e.sub (lk_of_allIn ⟨rfl, rfl, rfl, rfl, rfl, rfl, rfl, rfl, rfl, rfl, rfl, rfl, rfl, rfl, rfl, rfl, rfl, trivial⟩), s⟩
                        · replace hj241 := cond_f hc242 hj241
                          cases hj241
                          refine TC.skip fun a w e s => ?_
                          exact ⟨e.sub (lk_of_allIn ⟨rfl, rfl, rfl, rfl, rfl, rfl, rfl, rfl, rfl, rfl, rfl, rfl, rfl, rfl, rfl, rfl, rfl, trivial⟩), s⟩
                      · intro a w ⟨he, hs⟩
                        refine TC.use ?_ he hs
                        refine TC.k ?_
                        refine TC.region ?_
                        refine TO.s rfl rfl rfl (StepS.ldB rfl (Ent.at 9 rfl) kscalB_115_true rfl) ?_
                        refine TO.s rfl rfl rfl (StepS.move rfl) ?_
                        obtain ⟨x245, hx246, hj119⟩ := bind_some hj119
                        refine TO.s rfl rfl rfl (StepS.idx rfl rfl (OwnS.rd (Ent.at 4 rfl)) ksliceB_115_4_1_true (idx_spec hx246).1 (idxm_lt hx246)) ?_
                        refine TO.s rfl rfl rfl (StepS.ld0 rfl (OwnS.rd (Ent.at 4 rfl)) kscalB_4_true rfl (idxm hx246) rfl) ?_
                        refine TO.s rfl rfl rfl (StepS.move rfl) ?_
                        obtain ⟨b248, hj249, hj119⟩ := bind_some hj119
                        refine TO.mid1 28 243 (.bool b248) ?_ ?_
                        · refine bcase (x245) (fun hb247 => ?_) (fun hb247 => ?_)
                          · replace hj249 := cond_t hb247 hj249
                            cases hj249
                            refine TO.skip rfl rfl rfl (skipT hb247) rfl rfl ?_
                            refine TO.skip rfl rfl rfl (skipT hb247) rfl rfl ?_
                            refine TO.skip rfl rfl rfl (skipT hb247) rfl rfl ?_
                            refine TO.skip rfl rfl rfl (skipT hb247) rfl rfl ?_
                            refine TO.skip rfl rfl rfl (skipT hb247) rfl rfl ?_
                            refine TO.skip rfl rfl rfl (skipT hb247) rfl rfl ?_
                            refine TO.skip rfl rfl rfl skipU rfl rfl ?_
                            refine TO.skip rfl rfl rfl skipU rfl rfl ?_
                            refine TO.skip rfl rfl rfl skipU rfl rfl ?_
                            refine TO.skip rfl rfl rfl skipU rfl rfl ?_
                            refine TO.skip rfl rfl rfl skipU rfl rfl ?_
                            refine TO.skip rfl rfl rfl skipU rfl rfl ?_
                            refine TO.skip rfl rfl rfl skipU rfl rfl ?_
                            refine TO.skip rfl rfl rfl skipU rfl rfl ?_
                            refine TO.skip rfl rfl rfl skipU rfl rfl ?_
                            refine TO.skip rfl rfl rfl skipU rfl rfl ?_
                            refine TO.skip rfl rfl rfl skipU rfl rfl ?_
                            refine TO.skip rfl rfl rfl skipU rfl rfl ?_
                            refine TO.skip rfl rfl rfl skipU rfl rfl ?_
                            refine TO.skip rfl rfl rfl skipU rfl rfl ?_
                            refine TO.skip rfl rfl rfl skipU rfl rfl ?_
                            refine TO.skip rfl rfl rfl skipU rfl rfl ?_
                            refine TO.skip rfl rfl rfl skipU rfl rfl ?_
                            refine TO.skip rfl rfl rfl skipU rfl rfl ?_
                            refine TO.skip rfl rfl rfl skipU rfl rfl ?_
                            refine TO.skip rfl rfl rfl skipU rfl rfl ?_
                            refine TO.skip rfl rfl rfl (skipT hb247) rfl rfl ?_
                            refine TO.s rfl rfl rfl (StepS.pickT rfl hb247 rfl) ?_
                            exact TO.up1 28 0 rfl rfl rfl rfl
                          · replace hj249 := cond_f hb247 hj249
                            refine TO.sw rfl rfl rfl hb247 rfl rfl (StepS.ldB rfl (Ent.at 10 rfl) kscalB_22_true rfl) ?_
                            refine TO.sw rfl rfl rfl hb247 rfl rfl (StepS.move rfl) ?_
                            obtain ⟨x250, hx251, hj249⟩ := bind_some hj249
                            refine TO.sw rfl rfl rfl hb247 rfl rfl (StepS.idx rfl rfl (OwnS.rd (Ent.at 5 rfl)) ksliceB_22_3_1_true (idx_spec hx251).1 (idxm_lt hx251)) ?_
                            refine TO.sw rfl rfl rfl hb247 rfl rfl (StepS.ld0 rfl (OwnS.rd (Ent.at 5 rfl)) kscalB_3_true rfl (idxm hx251) rfl) ?_
                            refine TO.sw rfl rfl rfl hb247 rfl rfl (StepS.cmp rfl rfl rfl) ?_
                            refine TO.sw rfl rfl rfl hb247 rfl rfl (StepS.move rfl) ?_
                            obtain ⟨b253, hj254, hj249⟩ := bind_some hj249
                            refine TO.mid1 21 242 (.bool b253) ?_ ?_
                            · refine bcase ((decide (x250 > 0))) (fun hb252 => ?_) (fun hb252 => ?_)
                              · replace hj254 := cond_t hb252 hj254
                                refine TO.sw rfl rfl rfl hb252 rfl rfl (StepS.ldB rfl (Ent.at 10 rfl) kscalB_22_true rfl) ?_
                                refine TO.sw rfl rfl rfl hb252 rfl rfl (StepS.move rfl) ?_
                                obtain ⟨x255, hx256, hj254⟩ := bind_some hj254
                                refine TO.sw rfl rfl rfl hb252 rfl rfl (StepS.idx rfl rfl (OwnS.rd (Ent.at 5 rfl)) ksliceB_22_3_1_true (idx_spec hx256).1 (idxm_lt hx256)) ?_
                                refine TO.sw rfl rfl rfl hb252 rfl rfl (StepS.ld0 rfl (OwnS.rd (Ent.at 5 rfl)) kscalB_3_true rfl (idxm hx256) rfl) ?_
                                refine TO.sw rfl rfl rfl hb252 rfl rfl (StepS.move rfl) ?_
                                refine TO.sw rfl rfl rfl hb252 rfl rfl (StepS.cmp rfl rfl rfl) ?_
                                refine TO.sw rfl rfl rfl hb252 rfl rfl (StepS.move rfl) ?_
                                obtain ⟨b258, hj259, hj254⟩ := bind_some hj254
                                refine TO.mid1 13 241 (.bool b258) ?_ ?_
                                · refine bcase ((decide (x255 < x216.2.2))) (fun hb257 => ?_) (fun hb257 => ?_)
                                  · replace hj259 := cond_t hb257 hj259
                                    cases hj259
                                    refine TO.skip rfl rfl rfl (skipT hb257) rfl rfl ?_
                                    refine TO.skip rfl rfl rfl (skipT hb257) rfl rfl ?_
                                    refine TO.skip rfl rfl rfl (skipT hb257) rfl rfl ?_
                                    refine TO.skip rfl rfl rfl (skipT hb257) rfl rfl ?_
                                    refine TO.skip rfl rfl rfl (skipT hb257) rfl rfl ?_
                                    refine TO.skip rfl rfl rfl (skipT hb257) rfl rfl ?_
                                    refine TO.skip rfl rfl rfl (skipT hb257) rfl rfl ?_
                                    refine TO.skip rfl rfl rfl skipU rfl rfl ?_
                                    refine TO.skip rfl rfl rfl skipU rfl rfl ?_
                                    refine TO.skip rfl rfl rfl skipU rfl rfl ?_
                                    refine TO.skip rfl rfl rfl skipU rfl rfl ?_
                                    refine TO.skip rfl rfl rfl (skipT hb257) rfl rfl ?_
                                    refine TO.sw rfl rfl rfl hb252 rfl rfl (StepS.pickT rfl hb257 rfl) ?_
                                    exact TO.up1 13 0 rfl rfl rfl rfl
                                  · replace hj259 := cond_f hb257 hj259
                                    refine TO.sw rfl rfl rfl hb257 rfl rfl (StepS.ldB rfl (Ent.at 10 rfl) kscalB_22_true rfl) ?_
                                    refine TO.sw rfl rfl rfl hb257 rfl rfl (StepS.move rfl) ?_
                                    obtain ⟨x260, hx261, hj259⟩ := bind_some hj259
                                    refine TO.sw rfl rfl rfl hb257 rfl rfl (StepS.idx rfl rfl (OwnS.rd (Ent.at 5 rfl)) ksliceB_22_3_1_true (idx_spec hx261).1 (idxm_lt hx261)) ?_
                                    refine TO.sw rfl rfl rfl hb257 rfl rfl (StepS.ld0 rfl (OwnS.rd (Ent.at 5 rfl)) kscalB_3_true rfl (idxm hx261) rfl) ?_
                                    refine TO.sw rfl rfl rfl hb257 rfl rfl (StepS.move rfl) ?_
                                    refine TO.sw rfl rfl rfl hb257 rfl rfl (StepS.cmp rfl rfl rfl) ?_
                                    refine TO.sw rfl rfl rfl hb257 rfl rfl (StepS.move rfl) ?_
                                    refine TO.mid1 5 240 (.bool ((x260 == x216.2.2) && (decide (x96.2.2.1 < x96.2.1)))) ?_ ?_
                                    · refine bcase ((x260 == x216.2.2)) (fun hb262 => ?_) (fun hb262 => ?_)
                                      · refine TO.sw rfl rfl rfl hb262 rfl rfl (StepS.move rfl) ?_
                                        refine TO.sw rfl rfl rfl hb262 rfl rfl (StepS.fld rfl kfieldB_106_1_1_true) ?_
                                        refine TO.sw rfl rfl rfl hb262 rfl rfl (StepS.ldB rfl (Ent.at 1 rfl) kscalB_3_true rfl) ?_
                                        refine TO.sw rfl rfl rfl hb262 rfl rfl (StepS.cmp rfl rfl rfl) ?_
                                        refine TO.sw rfl rfl rfl hb257 rfl rfl (StepS.pickT rfl hb262 rfl) ?_
                                        exact TO.up1 5 0 rfl rfl (by rw [hb262]; rfl) rfl
                                      · refine TO.skip rfl rfl rfl (skipF hb262) rfl rfl ?_
                                        refine TO.skip rfl rfl rfl (skipF hb262) rfl rfl ?_
                                        refine TO.skip rfl rfl rfl (skipF hb262) rfl rfl ?_
                                        refine TO.skip rfl rfl rfl (skipF hb262) rfl rfl ?_
                                        refine TO.sw rfl rfl rfl hb257 rfl rfl (StepS.pickF rfl hb262 rfl) ?_
                                        exact TO.up1 5 0 rfl rfl (by rw [hb262]; rfl) rfl
                                    cases hj259
                                    refine TO.sw rfl rfl rfl hb252 rfl rfl (StepS.pickF rfl hb257 rfl) ?_
                                    exact TO.up1 9 0 rfl rfl rfl rfl
                                cases hj254
                                refine TO.sw rfl rfl rfl hb247 rfl rfl (StepS.pickT rfl hb252 rfl) ?_
                                exact TO.up1 9 0 rfl rfl rfl rfl
                              · replace hj254 := cond_f hb252 hj254
                                cases hj254
                                refine TO.skip rfl rfl rfl (skipF hb252) rfl rfl ?_
                                refine TO.skip rfl rfl rfl (skipF hb252) rfl rfl ?_
                                refine TO.skip rfl rfl rfl (skipF hb252) rfl rfl ?_
                                refine TO.skip rfl rfl rfl (skipF hb252) rfl rfl ?_
                                refine TO.skip rfl rfl rfl (skipF hb252) rfl rfl ?_
                                refine TO.skip rfl rfl rfl (skipF hb252) rfl rfl ?_
                                refine TO.skip rfl rfl rfl (skipF hb252) rfl rfl ?_
                                refine TO.skip rfl rfl rfl skipU rfl rfl ?_
                                refine TO.skip rfl rfl rfl skipU rfl rfl ?_
                                refine TO.skip rfl rfl rfl skipU rfl rfl ?_
                                refine TO.skip rfl rfl rfl skipU rfl rfl ?_
                                refine TO.skip rfl rfl rfl skipU rfl rfl ?_
                                refine TO.skip rfl rfl rfl skipU rfl rfl ?_
                                refine TO.skip rfl rfl rfl skipU rfl rfl ?_
                                refine TO.skip rfl rfl rfl skipU rfl rfl ?_
                                refine TO.skip rfl rfl rfl skipU rfl rfl ?_
                                refine TO.skip rfl rfl rfl skipU rfl rfl ?_
                                refine TO.skip rfl rfl rfl skipU rfl rfl ?_
                                refine TO.skip rfl rfl rfl skipU rfl rfl ?_
                                refine TO.skip rfl rfl rfl (skipF hb252) rfl rfl ?_
                                refine TO.sw rfl rfl rfl hb247 rfl rfl (StepS.pickF rfl hb252 rfl) ?_
                                exact TO.up1 21 0 rfl rfl rfl rfl
                            cases hj249
                            refine TO.s rfl rfl rfl (StepS.pickF rfl hb247 rfl) ?_
                            exact TO.up1 8 0 rfl rfl rfl rfl
                        refine TO.code ?_
                        refine TC.cond rfl (fun hc263 => ?_) (fun hc263 => ?_)
                        · replace hj119 := cond_t hc263 hj119
                          obtain ⟨y265, hj267, hj119⟩ := bind_some hj119
                          first | refine TC.cutM (fun a w => ∃ hs266 : List Value, Mid 301 B [(2, .pointer (some ⟨b2, 0, none⟩)), (4, .pointer (some ⟨b3, 0, none⟩)), (5, .pointer (some ⟨b4, 0, none⟩)), (6, v7), (7, .pointer (some ⟨b13, 0, none⟩)), (8, .pointer (some ⟨b19, 0, none⟩)), (9, .pointer (some ⟨b26, 0, none⟩)), (10, v30), (11, v220), (12, .func (.func 73) #[] #[.pointer (some ⟨b13, 0, none⟩), .pointer (some ⟨b26, 0, none⟩), .pointer (some ⟨b2, 0, none⟩), .pointer (some ⟨b19, 0, none⟩)]), (15, I 0), (34, h1), (35, I (a1.length : Int)), (36, I x52)] (OwnS 138 3 v220 (r218.map cTiii) :: Bx b98 106 [I x96.1, I x96.2.1, I x96.2.2.1, I x96.2.2.2] :: OwnS 138 3 v33 (y35.map cTiii) :: SS 22 3 1 cI v36 hs37 (y39) :: OwnS 4 1 v40 (y42.map cB) :: OwnS 3 1 v43 (y45.map cI) :: OwnS 28 1 v46 (y48.map cI) :: SS 22 3 1 cI v30 hs266 (y265) :: Bx b26 50 [v36] :: Bx b19 115 [v40] :: Bx b13 22 [v43] :: OwnS 3 1 v7 (y240.map cI) :: Bx b4 80 [v46, U 0, U 0, I 0] :: Bx b3 80 [.slice none 0 0, U 0, U 0, I 0] :: Bx b2 3 [I a0] :: L) a w) ?_ ?_ | refine TC.cutX (fun a w => ∃ hs266 : List Value, Mid 301 B [(2, .pointer (some ⟨b2, 0, none⟩)), (4, .pointer (some ⟨b3, 0, none⟩)), (5, .pointer (some ⟨b4, 0, none⟩)), (6, v7), (7, .pointer (some ⟨b13, 0, none⟩)), (8, .pointer (some ⟨b19, 0, none⟩)), (9, .pointer (some ⟨b26, 0, none⟩)), (10, v30), (11, v220), (12, .func (.func 73) #[] #[.pointer (some ⟨b13, 0, none⟩), .pointer (some ⟨b26, 0, none⟩), .pointer (some ⟨b2, 0, none⟩), .pointer (some ⟨b19, 0, none⟩)]), (15, I 0), (34, h1), (35, I (a1.length : Int)), (36, I x52)] (OwnS 138 3 v220 (r218.map cTiii) :: Bx b98 106 [I x96.1, I x96.2.1, I x96.2.2.1, I x96.2.2.2] :: OwnS 138 3 v33 (y35.map cTiii) :: SS 22 3 1 cI v36 hs37 (y39) :: OwnS 4 1 v40 (y42.map cB) :: OwnS 3 1 v43 (y45.map cI) :: OwnS 28 1 v46 (y48.map cI) :: SS 22 3 1 cI v30 hs266 (y265) :: Bx b26 50 [v36] :: Bx b19 115 [v40] :: Bx b13 22 [v43] :: OwnS 3 1 v7 (y240.map cI) :: Bx b4 80 [v46, U 0, U 0, I 0] :: Bx b3 80 [.slice none 0 0, U 0, U 0, I 0] :: Bx b2 3 [I a0] :: L) a w) ?_ ?_
                          · obtain ⟨xq264_4_1, hxq264_4_2, hj267⟩ := bind_some hj267
                            obtain ⟨yq264_9_2, hkq264_9_3, hj267⟩ := bind_some hj267
                            obtain ⟨xq264_10_1, hxq264_10_2, hj267⟩ := bind_some hj267
                            refine TC.region_any (OwnS 138 3 v220 (r218.map cTiii) :: Bx b98 106 [I x96.1, I x96.2.1, I x96.2.2.1, I x96.2.2.2] :: OwnS 138 3 v33 (y35.map cTiii) :: SS 22 3 1 cI v36 hs37 (y39) :: OwnS 4 1 v40 (y42.map cB) :: OwnS 3 1 v43 (y45.map cI) :: OwnS 28 1 v46 (y48.map cI) :: Bx b26 50 [v36] :: Bx b19 115 [v40] :: Bx b13 22 [v43] :: OwnS 3 1 v7 (y240.map cI) :: Bx b4 80 [v46, U 0, U 0, I 0] :: Bx b3 80 [.slice none 0 0, U 0, U 0, I 0] :: Bx b2 3 [I a0] :: L) 11 12 kfollows_mixedOrders_true rfl ?_
                            refine TA.takeW 0 rfl rfl rfl rfl (StepS.move rfl) (by kernel_rfl) (by kernel_rfl) (by kernel_rfl) rfl (.inr (fun _ s => Sat.by [14, 14, 14, 14, 14, 14, 14, 13, 13, 13, 13, 13, 13, 13] 14 1 (by kernel_rfl) s)) ?_
                            refine TA.takeW 1 rfl rfl rfl rfl (StepS.move rfl) (by kernel_rfl) (by kernel_rfl) (by kernel_rfl) rfl (.inr (fun _ s => Sat.by [14, 14, 14, 14, 14, 14, 14, 13, 13, 13, 13, 13, 13, 13] 14 1 (by kernel_rfl) s)) ?_
                            refine TA.takeW 2 rfl rfl rfl rfl (StepS.move rfl) (by kernel_rfl) (by kernel_rfl) (by kernel_rfl) rfl (.inr (fun _ s => Sat.by [14, 14, 14, 14, 14, 14, 14, 13, 13, 13, 13, 13, 13, 13] 14 1 (by kernel_rfl) s)) ?_
                            refine TA.takeW 3 rfl rfl rfl rfl (StepS.move rfl) (by kernel_rfl) (by kernel_rfl) (by kernel_rfl) rfl (.inr (fun _ s => Sat.by [14, 14, 14, 14, 14, 14, 14, 13, 13, 13, 13, 13, 13, 13] 14 1 (by kernel_rfl) s)) ?_
                            refine TA.takeW 6 rfl rfl rfl rfl (StepS.fld rfl kfieldB_106_1_1_true) (by kernel_rfl) (by kernel_rfl) (by kernel_rfl) rfl (.inr (fun _ s => Sat.by [14, 14, 14, 14, 14, 14, 14, 13, 13, 13, 13, 13, 13, 13] 14 1 (by kernel_rfl) s)) ?_
                            refine TA.take 7 rfl rfl rfl rfl (StepS.ldB rfl (Ent.at 1 rfl) kscalB_3_true rfl) (by kernel_rfl) (by kernel_rfl) (by kernel_rfl) (by kernel_rfl) (by kernel_rfl) (fun _ s => Sat.by [14, 14, 14, 14, 14, 14, 14, 13, 13, 13, 13, 13, 13, 13] 14 1 (by kernel_rfl) s) ?_
                            refine TA.all2 (i := 4) (j := 8) (by kernel_rfl) ?_ ?_
                            · refine TB.of rfl ?_
                              refine TO.s rfl rfl rfl (StepS.idxRR rfl rfl (SS.rr (Ent.at 7 rfl)) ksliceB_50_22_1_true hxq264_4_2) ?_
                              refine TA.back (.inr (fun _ s => Sat.by [14, 14, 14, 14, 14, 14, 14, 13, 13, 13, 13, 13, 13, 13] 14 1 (by kernel_rfl) s)) ?_
                              refine TA.asL (L' := (OwnS 138 3 v220 (r218.map cTiii) :: Bx b98 106 [I x96.1, I x96.2.1, I x96.2.2.1, I x96.2.2.2] :: OwnS 138 3 v33 (y35.map cTiii) :: SS 22 3 1 cI v36 hs37 (y39) :: OwnS 4 1 v40 (y42.map cB) :: OwnS 3 1 v43 (y45.map cI) :: OwnS 28 1 v46 (y48.map cI) :: SS 22 3 1 cI v30 hs50 (y49) :: Bx b26 50 [v36] :: Bx b19 115 [v40] :: Bx b13 22 [v43] :: OwnS 3 1 v7 (y240.map cI) :: Bx b4 80 [v46, U 0, U 0, I 0] :: Bx b3 80 [.slice none 0 0, U 0, U 0, I 0] :: Bx b2 3 [I a0] :: L)) (listed' := #[true, true, true, true, true, false, true, true, false, false, false, false]) (by kernel_rfl) (by kernel_rfl) ?_
                              refine TA.all2 (i := 5) (j := 8) (by kernel_rfl) ?_ ?_
                              · refine TB.of rfl ?_
                                refine TO.s rfl rfl rfl (StepS.ldRR rfl (SS.rr (Ent.at 7 rfl)) kscalB_22_true hxq264_4_2) ?_
                                refine TA.back (.inr (fun _ s => Sat.by [14, 14, 14, 14, 14, 14, 14, 13, 13, 13, 13, 13, 13, 13] 14 1 (by kernel_rfl) s)) ?_
                                refine TA.asL (L' := (OwnS 138 3 v220 (r218.map cTiii) :: Bx b98 106 [I x96.1, I x96.2.1, I x96.2.2.1, I x96.2.2.2] :: OwnS 138 3 v33 (y35.map cTiii) :: SS 22 3 1 cI v36 hs37 (y39) :: OwnS 4 1 v40 (y42.map cB) :: OwnS 3 1 v43 (y45.map cI) :: OwnS 28 1 v46 (y48.map cI) :: SS 22 3 1 cI v30 hs50 (y49) :: Bx b26 50 [v36] :: Bx b19 115 [v40] :: Bx b13 22 [v43] :: OwnS 3 1 v7 (y240.map cI) :: Bx b4 80 [v46, U 0, U 0, I 0] :: Bx b3 80 [.slice none 0 0, U 0, U 0, I 0] :: Bx b2 3 [I a0] :: L)) (listed' := #[true, true, true, true, true, true, true, true, false, false, false, false]) (by kernel_rfl) (by kernel_rfl) ?_
                                refine TA.all1 (i := 8) (by kernel_rfl) ?_
                                refine TB.of rfl ?_
                                refine TO.litS (f := cI) ([x96.2.1] : List Int) kelemB_22_3_1_8_true kinfo_3_bind_zero_some_I_0 rfl rfl (fun _ => rfl) rfl rfl (by kernel_rfl) rfl fun vq264_8_1 => ?_
                                refine TA.back (.inr (fun _ s => Sat.by [15, 15, 15, 15, 15, 15, 15, 14, 14, 14, 14, 14, 14, 14] 14 2 (by kernel_rfl) s)) ?_
                                refine TA.asL (L' := (OwnS 3 1 vq264_8_1 (([x96.2.1] : List Int).map cI) :: OwnS 138 3 v220 (r218.map cTiii) :: Bx b98 106 [I x96.1, I x96.2.1, I x96.2.2.1, I x96.2.2.2] :: OwnS 138 3 v33 (y35.map cTiii) :: SS 22 3 1 cI v36 hs37 (y39) :: OwnS 4 1 v40 (y42.map cB) :: OwnS 3 1 v43 (y45.map cI) :: OwnS 28 1 v46 (y48.map cI) :: SS 22 3 1 cI v30 hs50 (y49) :: Bx b26 50 [v36] :: Bx b19 115 [v40] :: Bx b13 22 [v43] :: OwnS 3 1 v7 (y240.map cI) :: Bx b4 80 [v46, U 0, U 0, I 0] :: Bx b3 80 [.slice none 0 0, U 0, U 0, I 0] :: Bx b2 3 [I a0] :: L)) (listed' := #[true, true, true, true, true, true, true, true, true, false, false, false]) (by kernel_rfl) (by kernel_rfl) ?_
                                refine TA.all1 (i := 9) (by kernel_rfl) ?_
                                refine TB.of rfl ?_
                                refine TO.ghost (fun _ s => Sat.front 8 rfl s) ?_
                                refine TO.ghost (fun _ s => Sat.openRow hxq264_4_2 s) ?_
                                refine TO.app (k := 0) (f := cI) kelemB_22_3_1_8_true (by decide) rfl rfl rfl (OwnS.rd (Ent.at 2 rfl)) hkq264_9_3 (fun x c hc => by simp [Value.oneCell'] at hc ⊢; first | (obtain rfl := hc; rfl) | (rcases hc with rfl <;> rfl)) rfl rfl fun vq264_9_4 => ?_
                                refine TA.back (.inr (fun _ s => Sat.by [16, 16, 16, 16, 16, 16, 16, 16, 16, 16, 16, 16, 16, 16] 14 3 (by kernel_rfl) s)) ?_
                                refine TA.asL (L' := (OwnS 3 1 vq264_9_4 (yq264_9_2.map cI) :: SSh 22 3 1 cI v30 hs50 (y49) x96.2.2.1.toNat :: OwnS 3 1 vq264_8_1 (([x96.2.1] : List Int).map cI) :: OwnS 138 3 v220 (r218.map cTiii) :: Bx b98 106 [I x96.1, I x96.2.1, I x96.2.2.1, I x96.2.2.2] :: OwnS 138 3 v33 (y35.map cTiii) :: SS 22 3 1 cI v36 hs37 (y39) :: OwnS 4 1 v40 (y42.map cB) :: OwnS 3 1 v43 (y45.map cI) :: OwnS 28 1 v46 (y48.map cI) :: Bx b26 50 [v36] :: Bx b19 115 [v40] :: Bx b13 22 [v43] :: OwnS 3 1 v7 (y240.map cI) :: Bx b4 80 [v46, U 0, U 0, I 0] :: Bx b3 80 [.slice none 0 0, U 0, U 0, I 0] :: Bx b2 3 [I a0] :: L)) (listed' := #[true, true, true, true, true, true, true, true, true, true, false, false]) (by kernel_rfl) (by kernel_rfl) ?_
                                refine TA.all1 (i := 10) (by kernel_rfl) ?_
                                refine TB.of rfl ?_
                                refine TO.s rfl rfl rfl (StepS.idxRH rfl rfl (Ent.at 1 rfl) ksliceB_50_22_1_true hxq264_10_2) ?_
                                refine TA.back (.inr (fun _ s => Sat.by [16, 16, 16, 16, 16, 16, 16, 16, 16, 16, 16, 16, 16, 16] 14 3 (by kernel_rfl) s)) ?_
                                refine TA.asL (L' := (OwnS 3 1 vq264_9_4 (yq264_9_2.map cI) :: SSh 22 3 1 cI v30 hs50 (y49) x96.2.2.1.toNat :: OwnS 3 1 vq264_8_1 (([x96.2.1] : List Int).map cI) :: OwnS 138 3 v220 (r218.map cTiii) :: Bx b98 106 [I x96.1, I x96.2.1, I x96.2.2.1, I x96.2.2.2] :: OwnS 138 3 v33 (y35.map cTiii) :: SS 22 3 1 cI v36 hs37 (y39) :: OwnS 4 1 v40 (y42.map cB) :: OwnS 3 1 v43 (y45.map cI) :: OwnS 28 1 v46 (y48.map cI) :: Bx b26 50 [v36] :: Bx b19 115 [v40] :: Bx b13 22 [v43] :: OwnS 3 1 v7 (y240.map cI) :: Bx b4 80 [v46, U 0, U 0, I 0] :: Bx b3 80 [.slice none 0 0, U 0, U 0, I 0] :: Bx b2 3 [I a0] :: L)) (listed' := #[true, true, true, true, true, true, true, true, true, true, true, false]) (by kernel_rfl) (by kernel_rfl) ?_
                                refine TA.all1 (i := 11) (by kernel_rfl) ?_
                                refine TB.of rfl ?_
                                refine TO.ghost (fun _ s => Sat.front 1 rfl s) ?_
                                refine TO.stRowH (xs := yq264_9_2) rfl rfl hxq264_10_2 ksizeB_22_1_true ?_
                                refine TA.back (.inl (by kernel_rfl)) ?_
                                refine TA.asL (L' := (SS 22 3 1 cI v30 (hs50.set x96.2.2.1.toNat vq264_9_4) (y49.set x96.2.2.1.toNat yq264_9_2) :: OwnS 3 1 vq264_8_1 (([x96.2.1] : List Int).map cI) :: OwnS 138 3 v220 (r218.map cTiii) :: Bx b98 106 [I x96.1, I x96.2.1, I x96.2.2.1, I x96.2.2.2] :: OwnS 138 3 v33 (y35.map cTiii) :: SS 22 3 1 cI v36 hs37 (y39) :: OwnS 4 1 v40 (y42.map cB) :: OwnS 3 1 v43 (y45.map cI) :: OwnS 28 1 v46 (y48.map cI) :: Bx b26 50 [v36] :: Bx b19 115 [v40] :: Bx b13 22 [v43] :: OwnS 3 1 v7 (y240.map cI) :: Bx b4 80 [v46, U 0, U 0, I 0] :: Bx b3 80 [.slice none 0 0, U 0, U 0, I 0] :: Bx b2 3 [I a0] :: L)) (listed' := #[true, true, true, true, true, true, true, true, true, true, true, true]) (by kernel_rfl) (by kernel_rfl) ?_
                                cases hj267
                                refine TA.nil (by kernel_rfl) fun a w e s => ?_
                                exact ⟨(hs50.set x96.2.2.1.toNat vq264_9_4), e.sub (lk_of_allIn ⟨rfl, rfl, rfl, rfl, rfl, rfl, rfl, rfl, rfl, rfl, rfl, rfl, rfl, rfl, trivial⟩), s.mono fun _ s => (by exact Sat.by [15, 15, 15, 15, 15, 15, 15, 7, 15, 15, 15, 15, 15, 15, 15] 15 1 (by kernel_rfl) s)⟩
                              · refine TB.of rfl ?_
                                refine TO.litS (f := cI) ([x96.2.1] : List Int) kelemB_22_3_1_8_true kinfo_3_bind_zero_some_I_0 rfl rfl (fun _ => rfl) rfl rfl (by kernel_rfl) rfl fun vq264_8_1 => ?_
                                refine TA.back (.inr (fun _ s => Sat.by [15, 15, 15, 15, 15, 15, 15, 14, 14, 14, 14, 14, 14, 14] 14 2 (by kernel_rfl) s)) ?_
                                refine TA.asL (L' := (OwnS 3 1 vq264_8_1 (([x96.2.1] : List Int).map cI) :: OwnS 138 3 v220 (r218.map cTiii) :: Bx b98 106 [I x96.1, I x96.2.1, I x96.2.2.1, I x96.2.2.2] :: OwnS 138 3 v33 (y35.map cTiii) :: SS 22 3 1 cI v36 hs37 (y39) :: OwnS 4 1 v40 (y42.map cB) :: OwnS 3 1 v43 (y45.map cI) :: OwnS 28 1 v46 (y48.map cI) :: SS 22 3 1 cI v30 hs50 (y49) :: Bx b26 50 [v36] :: Bx b19 115 [v40] :: Bx b13 22 [v43] :: OwnS 3 1 v7 (y240.map cI) :: Bx b4 80 [v46, U 0, U 0, I 0] :: Bx b3 80 [.slice none 0 0, U 0, U 0, I 0] :: Bx b2 3 [I a0] :: L)) (listed' := #[true, true, true, true, true, false, true, true, true, false, false, false]) (by kernel_rfl) (by kernel_rfl) ?_
                                refine TA.all1 (i := 5) (by kernel_rfl) ?_
                                refine TB.of rfl ?_
                                refine TO.s rfl rfl rfl (StepS.ldRR rfl (SS.rr (Ent.at 8 rfl)) kscalB_22_true hxq264_4_2) ?_
                                refine TA.back (.inr (fun _ s => Sat.by [15, 15, 15, 15, 15, 15, 15, 14, 14, 14, 14, 14, 14, 14] 14 2 (by kernel_rfl) s)) ?_
                                refine TA.asL (L' := (OwnS 3 1 vq264_8_1 (([x96.2.1] : List Int).map cI) :: OwnS 138 3 v220 (r218.map cTiii) :: Bx b98 106 [I x96.1, I x96.2.1, I x96.2.2.1, I x96.2.2.2] :: OwnS 138 3 v33 (y35.map cTiii) :: SS 22 3 1 cI v36 hs37 (y39) :: OwnS 4 1 v40 (y42.map cB) :: OwnS 3 1 v43 (y45.map cI) :: OwnS 28 1 v46 (y48.map cI) :: SS 22 3 1 cI v30 hs50 (y49) :: Bx b26 50 [v36] :: Bx b19 115 [v40] :: Bx b13 22 [v43] :: OwnS 3 1 v7 (y240.map cI) :: Bx b4 80 [v46, U 0, U 0, I 0] :: Bx b3 80 [.slice none 0 0, U 0, U 0, I 0] :: Bx b2 3 [I a0] :: L)) (listed' := #[true, true, true, true, true, true, true, true, true, false, false, false]) (by kernel_rfl) (by kernel_rfl) ?_
                                refine TA.all1 (i := 9) (by kernel_rfl) ?_
                                refine TB.of rfl ?_
                                refine TO.ghost (fun _ s => Sat.front 8 rfl s) ?_
                                refine TO.ghost (fun _ s => Sat.openRow hxq264_4_2 s) ?_
                                refine TO.app (k := 0) (f := cI) kelemB_22_3_1_8_true (by decide) rfl rfl rfl (OwnS.rd (Ent.at 2 rfl)) hkq264_9_3 (fun x c hc => by simp [Value.oneCell'] at hc ⊢; first | (obtain rfl := hc; rfl) | (rcases hc with rfl <;> rfl)) rfl rfl fun vq264_9_4 => ?_
                                refine TA.back (.inr (fun _ s => Sat.by [16, 16, 16, 16, 16, 16, 16, 16, 16, 16, 16, 16, 16, 16] 14 3 (by kernel_rfl) s)) ?_
                                refine TA.asL (L' := (OwnS 3 1 vq264_9_4 (yq264_9_2.map cI) :: SSh 22 3 1 cI v30 hs50 (y49) x96.2.2.1.toNat :: OwnS 3 1 vq264_8_1 (([x96.2.1] : List Int).map cI) :: OwnS 138 3 v220 (r218.map cTiii) :: Bx b98 106 [I x96.1, I x96.2.1, I x96.2.2.1, I x96.2.2.2] :: OwnS 138 3 v33 (y35.map cTiii) :: SS 22 3 1 cI v36 hs37 (y39) :: OwnS 4 1 v40 (y42.map cB) :: OwnS 3 1 v43 (y45.map cI) :: OwnS 28 1 v46 (y48.map cI) :: Bx b26 50 [v36] :: Bx b19 115 [v40] :: Bx b13 22 [v43] :: OwnS 3 1 v7 (y240.map cI) :: Bx b4 80 [v46, U 0, U 0, I 0] :: Bx b3 80 [.slice none 0 0, U 0, U 0, I 0] :: Bx b2 3 [I a0] :: L)) (listed' := #[true, true, true, true, true, true, true, true, true, true, false, false]) (by kernel_rfl) (by kernel_rfl) ?_
                                refine TA.all1 (i := 10) (by kernel_rfl) ?_
                                refine TB.of rfl ?_
                                refine TO.s rfl rfl rfl (StepS.idxRH rfl rfl (Ent.at 1 rfl) ksliceB_50_22_1_true hxq264_10_2) ?_
                                refine TA.back (.inr (fun _ s => Sat.by [16, 16, 16, 16, 16, 16, 16, 16, 16, 16, 16, 16, 16, 16] 14 3 (by kernel_rfl) s)) ?_
                                refine TA.asL (L' := (OwnS 3 1 vq264_9_4 (yq264_9_2.map cI) :: SSh 22 3 1 cI v30 hs50 (y49) x96.2.2.1.toNat :: OwnS 3 1 vq264_8_1 (([x96.2.1] : List Int).map cI) :: OwnS 138 3 v220 (r218.map cTiii) :: Bx b98 106 [I x96.1, I x96.2.1, I x96.2.2.1, I x96.2.2.2] :: OwnS 138 3 v33 (y35.map cTiii) :: SS 22 3 1 cI v36 hs37 (y39) :: OwnS 4 1 v40 (y42.map cB) :: OwnS 3 1 v43 (y45.map cI) :: OwnS 28 1 v46 (y48.map cI) :: Bx b26 50 [v36] :: Bx b19 115 [v40] :: Bx b13 22 [v43] :: OwnS 3 1 v7 (y240.map cI) :: Bx b4 80 [v46, U 0, U 0, I 0] :: Bx b3 80 [.slice none 0 0, U 0, U 0, I 0] :: Bx b2 3 [I a0] :: L)) (listed' := #[true, true, true, true, true, true, true, true, true, true, true, false]) (by kernel_rfl) (by kernel_rfl) ?_
                                refine TA.all1 (i := 11) (by kernel_rfl) ?_
                                refine TB.of rfl ?_
                                refine TO.ghost (fun _ s => Sat.front 1 rfl s) ?_
                                refine TO.stRowH (xs := yq264_9_2) rfl rfl hxq264_10_2 ksizeB_22_1_true ?_
                                refine TA.back (.inl (by kernel_rfl)) ?_
                                refine TA.asL (L' := (SS 22 3 1 cI v30 (hs50.set x96.2.2.1.toNat vq264_9_4) (y49.set x96.2.2.1.toNat yq264_9_2) :: OwnS 3 1 vq264_8_1 (([x96.2.1] : List Int).map cI) :: OwnS 138 3 v220 (r218.map cTiii) :: Bx b98 106 [I x96.1, I x96.2.1, I x96.2.2.1, I x96.2.2.2] :: OwnS 138 3 v33 (y35.map cTiii) :: SS 22 3 1 cI v36 hs37 (y39) :: OwnS 4 1 v40 (y42.map cB) :: OwnS 3 1 v43 (y45.map cI) :: OwnS 28 1 v46 (y48.map cI) :: Bx b26 50 [v36] :: Bx b19 115 [v40] :: Bx b13 22 [v43] :: OwnS 3 1 v7 (y240.map cI) :: Bx b4 80 [v46, U 0, U 0, I 0] :: Bx b3 80 [.slice none 0 0, U 0, U 0, I 0] :: Bx b2 3 [I a0] :: L)) (listed' := #[true, true, true, true, true, true, true, true, true, true, true, true]) (by kernel_rfl) (by kernel_rfl) ?_
                                cases hj267
                                refine TA.nil (by kernel_rfl) fun a w e s => ?_
                                exact ⟨(hs50.set x96.2.2.1.toNat vq264_9_4), e.sub (lk_of_allIn ⟨rfl, rfl, rfl, rfl, rfl, rfl, rfl, rfl, rfl, rfl, rfl, rfl, rfl, rfl, trivial⟩), s.mono fun _ s => (by exact Sat.by [15, 15, 15, 15, 15, 15, 15, 7, 15, 15, 15, 15, 15, 15, 15] 15 1 (by kernel_rfl) s)⟩
                            · refine TB.of rfl ?_
                              refine TO.litS (f := cI) ([x96.2.1] : List Int) kelemB_22_3_1_8_true kinfo_3_bind_zero_some_I_0 rfl rfl (fun _ => rfl) rfl rfl (by kernel_rfl) rfl fun vq264_8_1 => ?_
                              refine TA.back (.inr (fun _ s => Sat.by [15, 15, 15, 15, 15, 15, 15, 14, 14, 14, 14, 14, 14, 14] 14 2 (by kernel_rfl) s)) ?_
                              refine TA.asL (L' := (OwnS 3 1 vq264_8_1 (([x96.2.1] : List Int).map cI) :: OwnS 138 3 v220 (r218.map cTiii) :: Bx b98 106 [I x96.1, I x96.2.1, I x96.2.2.1, I x96.2.2.2] :: OwnS 138 3 v33 (y35.map cTiii) :: SS 22 3 1 cI v36 hs37 (y39) :: OwnS 4 1 v40 (y42.map cB) :: OwnS 3 1 v43 (y45.map cI) :: OwnS 28 1 v46 (y48.map cI) :: SS 22 3 1 cI v30 hs50 (y49) :: Bx b26 50 [v36] :: Bx b19 115 [v40] :: Bx b13 22 [v43] :: OwnS 3 1 v7 (y240.map cI) :: Bx b4 80 [v46, U 0, U 0, I 0] :: Bx b3 80 [.slice none 0 0, U 0, U 0, I 0] :: Bx b2 3 [I a0] :: L)) (listed' := #[true, true, true, true, false, false, true, true, true, false, false, false]) (by kernel_rfl) (by kernel_rfl) ?_
                              refine TA.all1 (i := 4) (by kernel_rfl) ?_
                              refine TB.of rfl ?_
                              refine TO.s rfl rfl rfl (StepS.idxRR rfl rfl (SS.rr (Ent.at 8 rfl)) ksliceB_50_22_1_true hxq264_4_2) ?_
                              refine TA.back (.inr (fun _ s => Sat.by [15, 15, 15, 15, 15, 15, 15, 14, 14, 14, 14, 14, 14, 14] 14 2 (by kernel_rfl) s)) ?_
                              refine TA.asL (L' := (OwnS 3 1 vq264_8_1 (([x96.2.1] : List Int).map cI) :: OwnS 138 3 v220 (r218.map cTiii) :: Bx b98 106 [I x96.1, I x96.2.1, I x96.2.2.1, I x96.2.2.2] :: OwnS 138 3 v33 (y35.map cTiii) :: SS 22 3 1 cI v36 hs37 (y39) :: OwnS 4 1 v40 (y42.map cB) :: OwnS 3 1 v43 (y45.map cI) :: OwnS 28 1 v46 (y48.map cI) :: SS 22 3 1 cI v30 hs50 (y49) :: Bx b26 50 [v36] :: Bx b19 115 [v40] :: Bx b13 22 [v43] :: OwnS 3 1 v7 (y240.map cI) :: Bx b4 80 [v46, U 0, U 0, I 0] :: Bx b3 80 [.slice none 0 0, U 0, U 0, I 0] :: Bx b2 3 [I a0] :: L)) (listed' := #[true, true, true, true, true, false, true, true, true, false, false, false]) (by kernel_rfl) (by kernel_rfl) ?_
                              refine TA.all1 (i := 5) (by kernel_rfl) ?_
                              refine TB.of rfl ?_
                              refine TO.s rfl rfl rfl (StepS.ldRR rfl (SS.rr (Ent.at 8 rfl)) kscalB_22_true hxq264_4_2) ?_
                              refine TA.back (.inr (fun _ s => Sat.by [15, 15, 15, 15, 15, 15, 15, 14, 14, 14, 14, 14, 14, 14] 14 2 (by kernel_rfl) s)) ?_
                              refine TA.asL (L' := (OwnS 3 1 vq264_8_1 (([x96.2.1] : List Int).map cI) :: OwnS 138 3 v220 (r218.map cTiii) :: Bx b98 106 [I x96.1, I x96.2.1, I x96.2.2.1, I x96.2.2.2] :: OwnS 138 3 v33 (y35.map cTiii) :: SS 22 3 1 cI v36 hs37 (y39) :: OwnS 4 1 v40 (y42.map cB) :: OwnS 3 1 v43 (y45.map cI) :: OwnS 28 1 v46 (y48.map cI) :: SS 22 3 1 cI v30 hs50 (y49) :: Bx b26 50 [v36] :: Bx b19 115 [v40] :: Bx b13 22 [v43] :: OwnS 3 1 v7 (y240.map cI) :: Bx b4 80 [v46, U 0, U 0, I 0] :: Bx b3 80 [.slice none 0 0, U 0, U 0, I 0] :: Bx b2 3 [I a0] :: L)) (listed' := #[true, true, true, true, true, true, true, true, true, false, false, false]) (by kernel_rfl) (by kernel_rfl) ?_
                              refine TA.all1 (i := 9) (by kernel_rfl) ?_
                              refine TB.of rfl ?_
                              refine TO.ghost (fun _ s => Sat.front 8 rfl s) ?_
                              refine TO.ghost (fun _ s => Sat.openRow hxq264_4_2 s) ?_
                              refine TO.app (k := 0) (f := cI) kelemB_22_3_1_8_true (by decide) rfl rfl rfl (OwnS.rd (Ent.at 2 rfl)) hkq264_9_3 (fun x c hc => by simp [Value.oneCell'] at hc ⊢; first | (obtain rfl := hc; rfl) | (rcases hc with rfl <;> rfl)) rfl rfl fun vq264_9_4 => ?_
                              refine TA.back (.inr (fun _ s => Sat.by [16, 16, 16, 16, 16, 16, 16, 16, 16, 16, 16, 16, 16, 16] 14 3 (by kernel_rfl) s)) ?_
                              refine TA.asL (L' := (OwnS 3 1 vq264_9_4 (yq264_9_2.map cI) :: SSh 22 3 1 cI v30 hs50 (y49) x96.2.2.1.toNat :: OwnS 3 1 vq264_8_1 (([x96.2.1] : List Int).map cI) :: OwnS 138 3 v220 (r218.map cTiii) :: Bx b98 106 [I x96.1, I x96.2.1, I x96.2.2.1, I x96.2.2.2] :: OwnS 138 3 v33 (y35.map cTiii) :: SS 22 3 1 cI v36 hs37 (y39) :: OwnS 4 1 v40 (y42.map cB) :: OwnS 3 1 v43 (y45.map cI) :: OwnS 28 1 v46 (y48.map cI) :: Bx b26 50 [v36] :: Bx b19 115 [v40] :: Bx b13 22 [v43] :: OwnS 3 1 v7 (y240.map cI) :: Bx b4 80 [v46, U 0, U 0, I 0] :: Bx b3 80 [.slice none 0 0, U 0, U 0, I 0] :: Bx b2 3 [I a0] :: L)) (listed' := #[true, true, true, true, true, true, true, true, true, true, false, false]) (by kernel_rfl) (by kernel_rfl) ?_
                              refine TA.all1 (i := 10) (by kernel_rfl) ?_
                              refine TB.of rfl ?_
                              refine TO.s rfl rfl rfl (StepS.idxRH rfl rfl (Ent.at 1 rfl) ksliceB_50_22_1_true hxq264_10_2) ?_
                              refine TA.back (.inr (fun _ s => Sat.by [16, 16, 16, 16, 16, 16, 16, 16, 16, 16, 16, 16, 16, 16] 14 3 (by kernel_rfl) s)) ?_
                              refine TA.asL (L' := (OwnS 3 1 vq264_9_4 (yq264_9_2.map cI) :: SSh 22 3 1 cI v30 hs50 (y49) x96.2.2.1.toNat :: OwnS 3 1 vq264_8_1 (([x96.2.1] : List Int).map cI) :: OwnS 138 3 v220 (r218.map cTiii) :: Bx b98 106 [I x96.1, I x96.2.1, I x96.2.2.1, I x96.2.2.2] :: OwnS 138 3 v33 (y35.map cTiii) :: SS 22 3 1 cI v36 hs37 (y39) :: OwnS 4 1 v40 (y42.map cB) :: OwnS 3 1 v43 (y45.map cI) :: OwnS 28 1 v46 (y48.map cI) :: Bx b26 50 [v36] :: Bx b19 115 [v40] :: Bx b13 22 [v43] :: OwnS 3 1 v7 (y240.map cI) :: Bx b4 80 [v46, U 0, U 0, I 0] :: Bx b3 80 [.slice none 0 0, U 0, U 0, I 0] :: Bx b2 3 [I a0] :: L)) (listed' := #[true, true, true, true, true, true, true, true, true, true, true, false]) (by kernel_rfl) (by kernel_rfl) ?_
                              refine TA.all1 (i := 11) (by kernel_rfl) ?_
                              refine TB.of rfl ?_
                              refine TO.ghost (fun _ s => Sat.front 1 rfl s) ?_
                              refine TO.stRowH (xs := yq264_9_2) rfl rfl hxq264_10_2 ksizeB_22_1_true ?_
                              refine TA.back (.inl (by kernel_rfl)) ?_
                              refine TA.asL (L' := (SS 22 3 1 cI v30 (hs50.set x96.2.2.1.toNat vq264_9_4) (y49.set x96.2.2.1.toNat yq264_9_2) :: OwnS 3 1 vq264_8_1 (([x96.2.1] : List Int).map cI) :: OwnS 138 3 v220 (r218.map cTiii) :: Bx b98 106 [I x96.1, I x96.2.1, I x96.2.2.1, I x96.2.2.2] :: OwnS 138 3 v33 (y35.map cTiii) :: SS 22 3 1 cI v36 hs37 (y39) :: OwnS 4 1 v40 (y42.map cB) :: OwnS 3 1 v43 (y45.map cI) :: OwnS 28 1 v46 (y48.map cI) :: Bx b26 50 [v36] :: Bx b19 115 [v40] :: Bx b13 22 [v43] :: OwnS 3 1 v7 (y240.map cI) :: Bx b4 80 [v46, U 0, U 0, I 0] :: Bx b3 80 [.slice none 0 0, U 0, U 0, I 0] :: Bx b2 3 [I a0] :: L)) (listed' := #[true, true, true, true, true, true, true, true, true, true, true, true]) (by kernel_rfl) (by kernel_rfl) ?_
                              cases hj267
                              refine TA.nil (by kernel_rfl) fun a w e s => ?_
                              exact ⟨(hs50.set x96.2.2.1.toNat vq264_9_4), e.sub (lk_of_allIn ⟨rfl, rfl, rfl, rfl, rfl, rfl, rfl, rfl, rfl, rfl, rfl, rfl, rfl, rfl, trivial⟩), s.mono fun _ s => (by exact Sat.by [15, 15, 15, 15, 15, 15, 15, 7, 15, 15, 15, 15, 15, 15, 15] 15 1 (by kernel_rfl) s)⟩
                          · intro a w ⟨hs266, he, hs⟩
                            cases hj119
                            have e := he; have s := hs
                            exact ⟨v220, v36, hs37, v40, v43, hs266, e.sub (lk_of_allIn ⟨rfl, rfl, rfl, rfl, rfl, rfl, rfl, rfl, rfl, rfl, rfl, rfl, rfl, rfl, trivial⟩), s.mono fun _ s => (by exact Sat.by [14, 14, 14, 14, 14, 14, 14, 14, 14, 10, 14, 14, 14, 13] 14 1 (by kernel_rfl) s)⟩
                        · replace hj119 := cond_f hc263 hj119
                          refine TC.region ?_
                          refine TO.s rfl rfl rfl (StepS.move rfl) ?_
                          refine TO.s rfl rfl rfl (StepS.move rfl) ?_
                          refine TO.s rfl rfl rfl (StepS.fld rfl kfieldB_106_1_1_true) ?_
                          refine TO.s rfl rfl rfl (StepS.ldB rfl (Ent.at 1 rfl) kscalB_3_true rfl) ?_
                          refine TO.s rfl rfl rfl (StepS.build (cs := [I x96.2.2.1, I x96.2.1, I 0]) rfl (by kernel_rfl)) ?_
                          refine TO.litS (f := cTiii) ([(x96.2.2.1, x96.2.1, 0)] : List (Int × Int × Int)) kelemB_136_138_3_24_true kinfo_138_bind_zero_some_agg_I_0_I_0_I_0 rfl rfl (fun _ => rfl) rfl rfl (by kernel_rfl) rfl fun v268 => ?_
                          obtain ⟨y270, hk271, hj119⟩ := bind_some hj119
                          refine TO.app (k := 1) (f := cTiii) kelemB_136_138_3_24_true (by decide) rfl rfl rfl (OwnS.rd (Ent.at 0 rfl)) hk271 (fun x c hc => by simp [Value.oneCell'] at hc ⊢; first | (obtain rfl := hc; rfl) | (rcases hc with rfl | rfl | rfl <;> rfl)) rfl rfl fun v272 => ?_
                          refine TO.s rfl rfl rfl (StepS.assign rfl) ?_
                          cases hj119
                          refine TO.nil fun a w e s => ?_
                          exact ⟨v272, v36, hs37, v40, v43, hs50, e.sub (lk_of_allIn ⟨rfl, rfl, rfl, rfl, rfl, rfl, rfl, rfl, rfl, rfl, rfl, rfl, rfl, rfl, trivial⟩), s.mono fun _ s => (by exact Sat.by [15, 15, 15, 15, 15, 15, 15, 15, 15, 11, 15, 15, 15, 14] 14 2 (by kernel_rfl) s)⟩
      · intro a w ⟨v102, v105, hs106, v109, v112, hs116, he, hs⟩
        refine TC.use ?_ he hs
        refine TC.region ?_
        refine TO.s rfl rfl rfl (StepS.fld rfl kfieldB_80_0_0_true) ?_
        refine TO.s rfl rfl rfl (StepS.ldB rfl (Ent.at 11 rfl) kscalB_24_true rfl) ?_
        refine TO.s rfl rfl rfl (StepS.move rfl) ?_
        refine TO.litS (f := cI) ([x118] : List Int) kelemB_24_28_1_8_true kinfo_28_bind_zero_some_I_0 rfl rfl (fun _ => rfl) rfl rfl (by kernel_rfl) rfl fun v273 => ?_
        obtain ⟨y275, hk276, hb94⟩ := bind_some hb94
        refine TO.app (k := 6) (f := cI) kelemB_24_28_1_8_true (by decide) rfl rfl rfl (OwnS.rd (Ent.at 0 rfl)) hk276 (fun x c hc => by simp [Value.oneCell'] at hc ⊢; first | (obtain rfl := hc; rfl) | (rcases hc with rfl <;> rfl)) rfl rfl fun v277 => ?_
        refine TO.s rfl rfl rfl (StepS.fld rfl kfieldB_80_0_0_true) ?_
        refine TO.pure (fun _ s => Rd.one (OwnS.rd (Ent.at 6 rfl)) s) fun oc278 => ?_
        refine TO.stB (us := [v277]) 12 [v277, U 0, U 0, I 0] rfl rfl rfl ksizeB_24_1_true oc278.2 rfl rfl (by intro u hu; simp only [List.mem_cons, List.not_mem_nil, or_false] at hu; rcases hu with rfl <;> first | exact oc278.1 | rfl) rfl ?_
        refine TO.code ?_
        refine TC.region ?_
        refine TO.s rfl rfl rfl (StepS.ari rfl rfl rfl) ?_
        refine TO.s rfl rfl rfl (StepS.move rfl) ?_
        cases hb94
        refine TO.nil fun a w e s => ?_
        exact ⟨v102, v105, hs106, v109, v112, v277, hs116, e.sub (lk_of_allIn ⟨rfl, rfl, rfl, rfl, rfl, rfl, rfl, rfl, rfl, rfl, rfl, rfl, rfl, trivial⟩), s.mono fun _ s => (by exact Sat.by [14, 14, 14, 14, 14, 14, 14, 14, 14, 13, 13, 13, 13] 13 2 (by kernel_rfl) s)⟩
    · replace hb94 := cond_f hc95 hb94
      cases hb94
      refine TC.exit rfl fun a w e s => ?_
      exact ⟨v33, v36, hs37, v40, v43, v46, hs50, e.sub (lk_of_allIn ⟨rfl, rfl, rfl, rfl, rfl, rfl, trivial⟩), s⟩
  · exact fun a w e s => ⟨.slice none 0 0, v23, hs24, v17, v11, .slice none 0 0, hs31, e.sub (lk_of_allIn ⟨rfl, rfl, rfl, rfl, rfl, rfl, rfl, rfl, rfl, rfl, rfl, rfl, rfl, trivial⟩), s.mono fun _ s => (by replace s := Sat.nilS (e := 28) (sz := 1) (f := cI) s; replace s := Sat.nilS (e := 138) (sz := 3) (f := cTiii) s; exact Sat.by [12, 12, 12, 12, 11, 10, 9, 9, 9, 12, 12, 12, 12] 13 0 (by kernel_rfl) s)⟩
  · rintro ⟨y75, y79, y82, y85, y88, y89, y91⟩ rfl a w ⟨v73, v76, hs77, v80, v83, v86, hs90, he, hs⟩
    dsimp only [Ctl.on] at hm
    refine TC.use ?_ he hs
    refine TC.k ?_
    refine TC.k ?_
    refine TC.region ?_
    refine TO.s rfl rfl rfl (StepS.assign rfl) ?_
    refine TO.code ?_
    obtain ⟨o287, hw288, hm⟩ := bind_some hm
    refine TC.loop hw288 (fun (x279, x280, x281) => fun a w => Mid 301 B [(2, .pointer (some ⟨b2, 0, none⟩)), (4, .pointer (some ⟨b3, 0, none⟩)), (5, .pointer (some ⟨b4, 0, none⟩)), (7, .pointer (some ⟨b13, 0, none⟩)), (8, .pointer (some ⟨b19, 0, none⟩)), (11, v73), (21, I x281)] (OwnS 138 3 v73 (y75.map cTiii) :: SS 22 3 1 cI v76 hs77 (y79) :: OwnS 4 1 v80 (y82.map cB) :: OwnS 3 1 v83 (y85.map cI) :: OwnS 28 1 v86 (y88.map cI) :: SS 22 3 1 cI v30 hs90 (y89) :: Bx b26 50 [v76] :: Bx b19 115 [v80] :: Bx b13 22 [v83] :: OwnS 3 1 v7 (y91.map cI) :: Bx b4 80 [v86, U x279, U x280, I 0] :: Bx b3 80 [.slice none 0 0, U 0, U 0, I 0] :: Bx b2 3 [I a0] :: L) a w) (fun (x285, x286) => fun a w => Mid 301 B [(4, .pointer (some ⟨b3, 0, none⟩)), (5, .pointer (some ⟨b4, 0, none⟩)), (11, v73)] (OwnS 138 3 v73 (y75.map cTiii) :: SS 22 3 1 cI v76 hs77 (y79) :: OwnS 4 1 v80 (y82.map cB) :: OwnS 3 1 v83 (y85.map cI) :: OwnS 28 1 v86 (y88.map cI) :: SS 22 3 1 cI v30 hs90 (y89) :: Bx b26 50 [v76] :: Bx b19 115 [v80] :: Bx b13 22 [v83] :: OwnS 3 1 v7 (y91.map cI) :: Bx b4 80 [v86, U x285, U x286, I 0] :: Bx b3 80 [.slice none 0 0, U 0, U 0, I 0] :: Bx b2 3 [I a0] :: L) a w) (fun (_ : Unit) _ _ => False) ?_ ?_ ?_ ?_
    · rintro ⟨x279, x280, x281⟩ o287r hb289 a w ⟨he, hs⟩
      dsimp only [F39_L3] at hb289
      refine TC.use ?_ he hs
      refine TC.k ?_
      refine TC.k ?_
      refine TC.region ?_
      refine TO.s rfl rfl rfl (StepS.move rfl) ?_
      refine TO.s rfl rfl rfl (StepS.ldB rfl (Ent.at 12 rfl) kscalB_3_true rfl) ?_
      refine TO.s rfl rfl rfl (StepS.cmp rfl rfl rfl) ?_
      refine TO.code ?_
      refine TC.cond rfl (fun hc290 => ?_) (fun hc290 => ?_)
      · replace hb289 := cond_t hc290 hb289
        refine TC.skipk ?_
        refine TC.k ?_
        obtain ⟨⟨x291, x292⟩, hj293, hb289⟩ := bind_some hb289
        first | refine TC.cutM (fun a w => Mid 301 B [(2, .pointer (some ⟨b2, 0, none⟩)), (4, .pointer (some ⟨b3, 0, none⟩)), (5, .pointer (some ⟨b4, 0, none⟩)), (7, .pointer (some ⟨b13, 0, none⟩)), (8, .pointer (some ⟨b19, 0, none⟩)), (11, v73), (21, I x281)] (OwnS 138 3 v73 (y75.map cTiii) :: SS 22 3 1 cI v76 hs77 (y79) :: OwnS 4 1 v80 (y82.map cB) :: OwnS 3 1 v83 (y85.map cI) :: OwnS 28 1 v86 (y88.map cI) :: SS 22 3 1 cI v30 hs90 (y89) :: Bx b26 50 [v76] :: Bx b19 115 [v80] :: Bx b13 22 [v83] :: OwnS 3 1 v7 (y91.map cI) :: Bx b4 80 [v86, U x291, U x292, I 0] :: Bx b3 80 [.slice none 0 0, U 0, U 0, I 0] :: Bx b2 3 [I a0] :: L) a w) ?_ ?_ | refine TC.cutX (fun a w => Mid 301 B [(2, .pointer (some ⟨b2, 0, none⟩)), (4, .pointer (some ⟨b3, 0, none⟩)), (5, .pointer (some ⟨b4, 0, none⟩)), (7, .pointer (some ⟨b13, 0, none⟩)), (8, .pointer (some ⟨b19, 0, none⟩)), (11, v73), (21, I x281)] (OwnS 138 3 v73 (y75.map cTiii) :: SS 22 3 1 cI v76 hs77 (y79) :: OwnS 4 1 v80 (y82.map cB) :: OwnS 3 1 v83 (y85.map cI) :: OwnS 28 1 v86 (y88.map cI) :: SS 22 3 1 cI v30 hs90 (y89) :: Bx b26 50 [v76] :: Bx b19 115 [v80] :: Bx b13 22 [v83] :: OwnS 3 1 v7 (y91.map cI) :: Bx b4 80 [v86, U x291, U x292, I 0] :: Bx b3 80 [.slice none 0 0, U 0, U 0, I 0] :: Bx b2 3 [I a0] :: L) a w) ?_ ?_
        · refine TC.block ?_
          refine TC.k ?_
          refine TC.k ?_
          refine TC.region ?_
          refine TO.s rfl rfl rfl (StepS.ldB rfl (Ent.at 7 rfl) kscalB_115_true rfl) ?_
          refine TO.s rfl rfl rfl (StepS.move rfl) ?_
          obtain ⟨x294, hx295, hj293⟩ := bind_some hj293
          refine TO.s rfl rfl rfl (StepS.idx rfl rfl (OwnS.rd (Ent.at 2 rfl)) ksliceB_115_4_1_true (idx_spec hx295).1 (idxm_lt hx295)) ?_
          refine TO.s rfl rfl rfl (StepS.ld0 rfl (OwnS.rd (Ent.at 2 rfl)) kscalB_4_true rfl (idxm hx295) rfl) ?_
          refine TO.code ?_
          obtain ⟨x296, hj297, hj293⟩ := bind_some hj293
          first | refine TC.cutM (fun a w => Mid 301 B [(2, .pointer (some ⟨b2, 0, none⟩)), (4, .pointer (some ⟨b3, 0, none⟩)), (5, .pointer (some ⟨b4, 0, none⟩)), (7, .pointer (some ⟨b13, 0, none⟩)), (8, .pointer (some ⟨b19, 0, none⟩)), (11, v73), (21, I x281)] (OwnS 138 3 v73 (y75.map cTiii) :: SS 22 3 1 cI v76 hs77 (y79) :: OwnS 4 1 v80 (y82.map cB) :: OwnS 3 1 v83 (y85.map cI) :: OwnS 28 1 v86 (y88.map cI) :: SS 22 3 1 cI v30 hs90 (y89) :: Bx b26 50 [v76] :: Bx b19 115 [v80] :: Bx b13 22 [v83] :: OwnS 3 1 v7 (y91.map cI) :: Bx b4 80 [v86, U x296, U x280, I 0] :: Bx b3 80 [.slice none 0 0, U 0, U 0, I 0] :: Bx b2 3 [I a0] :: L) a w) ?_ ?_ | refine TC.cutX (fun a w => Mid 301 B [(2, .pointer (some ⟨b2, 0, none⟩)), (4, .pointer (some ⟨b3, 0, none⟩)), (5, .pointer (some ⟨b4, 0, none⟩)), (7, .pointer (some ⟨b13, 0, none⟩)), (8, .pointer (some ⟨b19, 0, none⟩)), (11, v73), (21, I x281)] (OwnS 138 3 v73 (y75.map cTiii) :: SS 22 3 1 cI v76 hs77 (y79) :: OwnS 4 1 v80 (y82.map cB) :: OwnS 3 1 v83 (y85.map cI) :: OwnS 28 1 v86 (y88.map cI) :: SS 22 3 1 cI v30 hs90 (y89) :: Bx b26 50 [v76] :: Bx b19 115 [v80] :: Bx b13 22 [v83] :: OwnS 3 1 v7 (y91.map cI) :: Bx b4 80 [v86, U x296, U x280, I 0] :: Bx b3 80 [.slice none 0 0, U 0, U 0, I 0] :: Bx b2 3 [I a0] :: L) a w) ?_ ?_
          · refine TC.cond rfl (fun hc298 => ?_) (fun hc298 => ?_)
            · replace hj297 := cond_t hc298 hj297
              refine TC.region ?_
              refine TO.s rfl rfl rfl (StepS.fld rfl kfieldB_80_1_1_true) ?_
              refine TO.s rfl rfl rfl (StepS.ldB rfl (Ent.at 10 rfl) kscalB_36_true rfl) ?_
              refine TO.s rfl rfl rfl (StepS.move rfl) ?_
              refine TO.s rfl rfl rfl (StepS.cvIV kintB_3_i64_true kintB_108_u64_true rfl) ?_
              refine TO.s rfl rfl rfl (StepS.shl (m := 1#32) rfl rfl (u64_nonneg _)) ?_
              refine TO.s rfl rfl rfl (StepS.bitU rfl rfl rfl) ?_
              refine TO.s rfl rfl rfl (StepS.fld rfl kfieldB_80_1_1_true) ?_
              refine TO.stB (us := [U (x279 + ((1#32) <<< (u64 x281).toNat))]) 10 [v86, U (x279 + ((1#32) <<< (u64 x281).toNat)), U x280, I 0] rfl rfl rfl ksizeB_36_1_true rfl rfl rfl (by simp [Value.oneCell']) rfl ?_
              cases hj297
              refine TO.nil fun a w e s => ?_
              exact ⟨e.sub (lk_of_allIn ⟨rfl, rfl, rfl, rfl, rfl, rfl, rfl, trivial⟩), s⟩
            · replace hj297 := cond_f hc298 hj297
              cases hj297
              refine TC.skip fun a w e s => ?_
              exact ⟨e.sub (lk_of_allIn ⟨rfl, rfl, rfl, rfl, rfl, rfl, rfl, trivial⟩), s⟩
          · intro a w ⟨he, hs⟩
            refine TC.use ?_ he hs
            refine TC.k ?_
            refine TC.region ?_
            refine TO.s rfl rfl rfl (StepS.ldB rfl (Ent.at 8 rfl) kscalB_22_true rfl) ?_
            refine TO.s rfl rfl rfl (StepS.move rfl) ?_
            obtain ⟨x299, hx300, hj293⟩ := bind_some hj293
            refine TO.s rfl rfl rfl (StepS.idx rfl rfl (OwnS.rd (Ent.at 3 rfl)) ksliceB_22_3_1_true (idx_spec hx300).1 (idxm_lt hx300)) ?_
            refine TO.s rfl rfl rfl (StepS.ld0 rfl (OwnS.rd (Ent.at 3 rfl)) kscalB_3_true rfl (idxm hx300) rfl) ?_
            refine TO.s rfl rfl rfl (StepS.cmp rfl rfl rfl) ?_
            refine TO.code ?_
            refine TC.cond rfl (fun hc301 => ?_) (fun hc301 => ?_)
            · replace hj293 := cond_t hc301 hj293
              refine TC.region ?_
              refine TO.s rfl rfl rfl (StepS.fld rfl kfieldB_80_2_2_true) ?_
              refine TO.s rfl rfl rfl (StepS.ldB rfl (Ent.at 10 rfl) kscalB_36_true rfl) ?_
              refine TO.s rfl rfl rfl (StepS.move rfl) ?_
              refine TO.s rfl rfl rfl (StepS.cvIV kintB_3_i64_true kintB_108_u64_true rfl) ?_
              refine TO.s rfl rfl rfl (StepS.shl (m := 1#32) rfl rfl (u64_nonneg _)) ?_
              refine TO.s rfl rfl rfl (StepS.bitU rfl rfl rfl) ?_
              refine TO.s rfl rfl rfl (StepS.fld rfl kfieldB_80_2_2_true) ?_
              refine TO.stB (us := [U (x280 + ((1#32) <<< (u64 x281).toNat))]) 10 [v86, U x296, U (x280 + ((1#32) <<< (u64 x281).toNat)), I 0] rfl rfl rfl ksizeB_36_1_true rfl rfl rfl (by simp [Value.oneCell']) rfl ?_
              cases hj293
              refine TO.nil fun a w e s => ?_
              exact ⟨e.sub (lk_of_allIn ⟨rfl, rfl, rfl, rfl, rfl, rfl, rfl, trivial⟩), s⟩
            · replace hj293 := cond_f hc301 hj293
              cases hj293
              refine TC.skip fun a w e s => ?_
              exact ⟨e.sub (lk_of_allIn ⟨rfl, rfl, rfl, rfl, rfl, rfl, rfl, trivial⟩), s⟩
        · intro a w ⟨he, hs⟩
          refine TC.use ?_ he hs
          refine TC.region ?_
          refine TO.s rfl rfl rfl (StepS.move rfl) ?_
          refine TO.s rfl rfl rfl (StepS.ari rfl rfl rfl) ?_
          refine TO.s rfl rfl rfl (StepS.assign rfl) ?_
          cases hb289
          refine TO.nil fun a w e s => ?_
          exact ⟨e.sub (lk_of_allIn ⟨rfl, rfl, rfl, rfl, rfl, rfl, rfl, trivial⟩), s⟩
      · replace hb289 := cond_f hc290 hb289
        cases hb289
        refine TC.exit rfl fun a w e s => ?_
        exact ⟨e.sub (lk_of_allIn ⟨rfl, rfl, rfl, trivial⟩), s⟩
    · exact fun a w e s => ⟨e.sub (lk_of_allIn ⟨rfl, rfl, rfl, rfl, rfl, rfl, rfl, trivial⟩), s⟩
    · rintro ⟨x285, x286⟩ rfl a w ⟨he, hs⟩
      dsimp only [Ctl.on] at hm
      refine TC.use ?_ he hs
      refine TC.k ?_
      refine TC.region ?_
      refine TO.s rfl rfl rfl (StepS.move rfl) ?_
      refine TO.s rfl rfl rfl (StepS.lenm rfl (OwnS.rd (Ent.at 0 rfl)) ksliceB_136_138_3_true rfl) ?_
      refine TO.s rfl rfl rfl (StepS.fld rfl kfieldB_80_3_3_true) ?_
      refine TO.stB (us := [I (y75.length : Int)]) 10 [v86, U x285, U x286, I (y75.length : Int)] rfl rfl rfl ksizeB_3_1_true rfl rfl rfl (by simp [Value.oneCell']) rfl ?_
      refine TO.code ?_
      refine TC.k ?_
      refine TC.region ?_
      refine TO.s rfl rfl rfl (StepS.ldBA rfl (Ent.at 10 rfl) kaggB_80_4_true rfl rfl) ?_
      refine TO.pure (fun _ s => Rd.one (OwnS.rd (Ent.at 4 rfl)) s) fun oc302 => ?_
      refine TO.stB (us := [v86, U x285, U x286, I (y75.length : Int)]) 11 [v86, U x285, U x286, I (y75.length : Int)] rfl rfl rfl ksizeB_80_4_true rfl rfl rfl (by intro u hu; simp only [List.mem_cons, List.not_mem_nil, or_false] at hu; rcases hu with rfl | rfl | rfl | rfl <;> first | exact oc302.1 | rfl) rfl ?_
      refine TO.code ?_
      cases hm
      refine TC.ret fun a w e s => ?_
      refine FRet.cell1 (P := Try.prog) (fn := Try.f39) e s rfl rfl (Ent.at 11 rfl) kaggB_80_4_true rfl ?_
      refine ⟨_, _, rfl, ⟨(v86), rfl, rfl⟩, ?_⟩
      refine s.mono fun _ s => ?_
      replace s := Sat.front 4 rfl s
      replace s := Sat.erase 1 s
      replace s := Sat.erase 1 s
      replace s := Sat.erase 1 s
      replace s := Sat.erase 1 s
      replace s := Sat.erase 1 s
      replace s := Sat.erase 1 s
      replace s := Sat.erase 1 s
      replace s := Sat.erase 1 s
      replace s := Sat.erase 1 s
      replace s := Sat.erase 1 s
      replace s := Sat.erase 1 s
      replace s := Sat.erase 1 s
      exact s
    · rintro r rfl
      exact fun a w h => h.elim
  · rintro r rfl
    exact fun a w h => h.elim

set_option maxRecDepth 100000 in
theorem C40 {B : World} {L : List HP} {a0 : (List Int) × (BitVec 32) × (BitVec 32) × Int} {a1 : (List Int) × (BitVec 32) × (BitVec 32) × Int} {h0_1 : Value} {h1_1 : Value} {r0 : Bool} (eh0_1 : Ent L (Rd 1 h0_1 (a0.1.map cI))) (eh1_1 : Ent L (Rd 1 h1_1 (a1.1.map cI))) (hm : F40 a0 a1 = some r0) {w : World} (st : St B L w) : Calls Try.prog 40 #[.agg #[h0_1, U a0.2.1, U a0.2.2.1, I a0.2.2.2], .agg #[h1_1, U a1.2.1, U a1.2.2.1, I a1.2.2.2]] w (fun e w' => (e = .returned (.bool r0) ∧ St B (L) w')) := by
  refine calls_of (N := 31) (L := L) (args := [.agg #[h0_1, U a0.2.1, U a0.2.2.1, I a0.2.2.2], .agg #[h1_1, U a1.2.1, U a1.2.2.1, I a1.2.2.2]]) Try.func40 rfl rfl rfl ?_ st
  dsimp only [F40] at hm
  refine TC.k ?_
  refine TC.region ?_
  refine TO.box (cs := [h0_1, U a0.2.1, U a0.2.2.1, I a0.2.2.2]) rfl rfl rfl fun b3 => ?_
  refine TO.box (cs := [h1_1, U a1.2.1, U a1.2.2.1, I a1.2.2.2]) rfl rfl rfl fun b4 => ?_
  refine TO.s rfl rfl rfl (StepS.assign rfl) ?_
  refine TO.code ?_
  refine TC.k ?_
  refine TC.region ?_
  refine TO.s rfl rfl rfl (StepS.fld rfl kfieldB_80_0_0_true) ?_
  refine TO.s rfl rfl rfl (StepS.ldB rfl (Ent.at 1 rfl) kscalB_24_true rfl) ?_
  refine TO.s rfl rfl rfl (StepS.fld rfl kfieldB_80_0_0_true) ?_
  refine TO.s rfl rfl rfl (StepS.ldB rfl (Ent.at 0 rfl) kscalB_24_true rfl) ?_
  obtain ⟨r5, hc6, hm⟩ := bind_some hm
  refine TO.q rfl rfl rfl (StepQ.call kcallB_18_true rfl rfl (fun _ st => C18 eh0_1.tl.tl eh1_1.tl.tl hc6 st)) ?_
  refine TO.s rfl rfl rfl (StepS.move rfl) ?_
  refine TO.mid1 6 16 (.bool (r5 && (a0.2.1 == a1.2.1))) ?_ ?_
  · refine bcase (r5) (fun hb7 => ?_) (fun hb7 => ?_)
    · refine TO.sw rfl rfl rfl hb7 rfl rfl (StepS.fld rfl kfieldB_80_1_1_true) ?_
      refine TO.sw rfl rfl rfl hb7 rfl rfl (StepS.ldB rfl (Ent.at 1 rfl) kscalB_36_true rfl) ?_
      refine TO.sw rfl rfl rfl hb7 rfl rfl (StepS.fld rfl kfieldB_80_1_1_true) ?_
      refine TO.sw rfl rfl rfl hb7 rfl rfl (StepS.ldB rfl (Ent.at 0 rfl) kscalB_36_true rfl) ?_
      refine TO.sw rfl rfl rfl hb7 rfl rfl (StepS.cmpU rfl rfl rfl) ?_
      refine TO.s rfl rfl rfl (StepS.pickT rfl hb7 rfl) ?_
      exact TO.up1 6 0 rfl rfl (by rw [hb7]; rfl) rfl
    · refine TO.skip rfl rfl rfl (skipF hb7) rfl rfl ?_
      refine TO.skip rfl rfl rfl (skipF hb7) rfl rfl ?_
      refine TO.skip rfl rfl rfl (skipF hb7) rfl rfl ?_
      refine TO.skip rfl rfl rfl (skipF hb7) rfl rfl ?_
      refine TO.skip rfl rfl rfl (skipF hb7) rfl rfl ?_
      refine TO.s rfl rfl rfl (StepS.pickF rfl hb7 rfl) ?_
      exact TO.up1 6 0 rfl rfl (by rw [hb7]; rfl) rfl
  refine TO.s rfl rfl rfl (StepS.move rfl) ?_
  refine TO.mid1 6 23 (.bool ((r5 && (a0.2.1 == a1.2.1)) && (a0.2.2.1 == a1.2.2.1))) ?_ ?_
  · refine bcase ((r5 && (a0.2.1 == a1.2.1))) (fun hb8 => ?_) (fun hb8 => ?_)
    · refine TO.sw rfl rfl rfl hb8 rfl rfl (StepS.fld rfl kfieldB_80_2_2_true) ?_
      refine TO.sw rfl rfl rfl hb8 rfl rfl (StepS.ldB rfl (Ent.at 1 rfl) kscalB_36_true rfl) ?_
      refine TO.sw rfl rfl rfl hb8 rfl rfl (StepS.fld rfl kfieldB_80_2_2_true) ?_
      refine TO.sw rfl rfl rfl hb8 rfl rfl (StepS.ldB rfl (Ent.at 0 rfl) kscalB_36_true rfl) ?_
      refine TO.sw rfl rfl rfl hb8 rfl rfl (StepS.cmpU rfl rfl rfl) ?_
      refine TO.s rfl rfl rfl (StepS.pickT rfl hb8 rfl) ?_
      exact TO.up1 6 0 rfl rfl (by rw [hb8]; rfl) rfl
    · refine TO.skip rfl rfl rfl (skipF hb8) rfl rfl ?_
      refine TO.skip rfl rfl rfl (skipF hb8) rfl rfl ?_
      refine TO.skip rfl rfl rfl (skipF hb8) rfl rfl ?_
      refine TO.skip rfl rfl rfl (skipF hb8) rfl rfl ?_
      refine TO.skip rfl rfl rfl (skipF hb8) rfl rfl ?_
      refine TO.s rfl rfl rfl (StepS.pickF rfl hb8 rfl) ?_
      exact TO.up1 6 0 rfl rfl (by rw [hb8]; rfl) rfl
  refine TO.s rfl rfl rfl (StepS.move rfl) ?_
  refine TO.mid1 6 30 (.bool (((r5 && (a0.2.1 == a1.2.1)) && (a0.2.2.1 == a1.2.2.1)) && (a0.2.2.2 == a1.2.2.2))) ?_ ?_
  · refine bcase (((r5 && (a0.2.1 == a1.2.1)) && (a0.2.2.1 == a1.2.2.1))) (fun hb9 => ?_) (fun hb9 => ?_)
    · refine TO.sw rfl rfl rfl hb9 rfl rfl (StepS.fld rfl kfieldB_80_3_3_true) ?_
      refine TO.sw rfl rfl rfl hb9 rfl rfl (StepS.ldB rfl (Ent.at 1 rfl) kscalB_3_true rfl) ?_
      refine TO.sw rfl rfl rfl hb9 rfl rfl (StepS.fld rfl kfieldB_80_3_3_true) ?_
      refine TO.sw rfl rfl rfl hb9 rfl rfl (StepS.ldB rfl (Ent.at 0 rfl) kscalB_3_true rfl) ?_
      refine TO.sw rfl rfl rfl hb9 rfl rfl (StepS.cmp rfl rfl rfl) ?_
      refine TO.s rfl rfl rfl (StepS.pickT rfl hb9 rfl) ?_
      exact TO.up1 6 0 rfl rfl (by rw [hb9]; rfl) rfl
    · refine TO.skip rfl rfl rfl (skipF hb9) rfl rfl ?_
      refine TO.skip rfl rfl rfl (skipF hb9) rfl rfl ?_
      refine TO.skip rfl rfl rfl (skipF hb9) rfl rfl ?_
      refine TO.skip rfl rfl rfl (skipF hb9) rfl rfl ?_
      refine TO.skip rfl rfl rfl (skipF hb9) rfl rfl ?_
      refine TO.s rfl rfl rfl (StepS.pickF rfl hb9 rfl) ?_
      exact TO.up1 6 0 rfl rfl (by rw [hb9]; rfl) rfl
  refine TO.s rfl rfl rfl (StepS.assign rfl) ?_
  refine TO.code ?_
  cases hm
  refine TC.ret fun a w e s => ?_
  refine FRet.mk1 (P := Try.prog) (fn := Try.f40) (t := 4) e rfl rfl ?_
  exact ⟨rfl, s.mono fun _ => Sat.dropN 2⟩

set_option maxRecDepth 100000 in
theorem C11 {B : World} {L : List HP} {a0 : Int} {a1 : List (Int × Int × Int × Int)} {h1 : Value} {r0 : Bool} (e1 : Ent L (Rd 4 h1 (a1.map cTiiii))) (hm : F11 a0 a1 = some r0) {w : World} (st : St B L w) : Calls Try.prog 11 #[I a0, h1] w (fun e w' => (e = .returned (.bool r0) ∧ St B (L) w')) := by
  refine calls_of (N := 33) (L := L) (args := [I a0, h1]) Try.func11 rfl rfl rfl ?_ st
  dsimp only [F11] at hm
  refine TC.k ?_
  refine TC.region ?_
  refine TO.s rfl rfl rfl (StepS.assign rfl) ?_
  refine TO.code ?_
  refine TC.k ?_
  refine TC.region ?_
  refine TO.s rfl rfl rfl (StepS.move rfl) ?_
  refine TO.s rfl rfl rfl (StepS.move rfl) ?_
  obtain ⟨⟨r1, r2⟩, hc3, hm⟩ := bind_some hm
  refine TO.callO kcallB_38_true rfl rfl rfl (fun _ st => C38 e1 hc3 st) ?_
  rintro _ _ ⟨v4, rfl, rfl⟩
  refine TO.s rfl rfl rfl (StepS.move rfl) ?_
  refine TO.s rfl rfl rfl (StepS.extract rfl rfl) ?_
  refine TO.s rfl rfl rfl (StepS.extract rfl rfl) ?_
  refine TO.alloc kinfo_80_bind_zero_some_agg_slice_none_0_0_U_0_U_0_I_0 rfl rfl fun b6 => ?_
  refine TO.pure (fun _ s => Rd.one (OwnS.rd (Ent.at 1 rfl)) s) fun oc7 => ?_
  refine TO.stB (us := [v4, U r1.2.1, U r1.2.2.1, I r1.2.2.2]) 0 [v4, U r1.2.1, U r1.2.2.1, I r1.2.2.2] rfl rfl rfl ksizeB_80_4_true rfl rfl rfl (by intro u hu; simp only [List.mem_cons, List.not_mem_nil, or_false] at hu; rcases hu with rfl | rfl | rfl | rfl <;> first | exact oc7.1 | rfl) rfl ?_
  refine TO.s rfl rfl rfl (StepS.assign rfl) ?_
  refine TO.code ?_
  refine TC.k ?_
  refine TC.region ?_
  refine TO.s rfl rfl rfl (StepS.move rfl) ?_
  refine TO.s rfl rfl rfl (StepS.move rfl) ?_
  refine TO.s rfl rfl rfl (StepS.lenm rfl e1.tl.tl ksliceB_23_106_4_true rfl) ?_
  obtain ⟨r8, hc9, hm⟩ := bind_some hm
  refine TO.q rfl rfl rfl (StepQ.call kcallB_21_true rfl rfl (fun _ st => C21  hc9 st)) ?_
  refine TO.s rfl rfl rfl (StepS.assign rfl) ?_
  refine TO.code ?_
  refine TC.k ?_
  refine TC.region ?_
  refine TO.s rfl rfl rfl (StepS.build (cs := [.slice none 0 0, U 0, U 0, I 0]) rfl (by kernel_rfl)) ?_
  refine TO.alloc kinfo_80_bind_zero_some_agg_slice_none_0_0_U_0_U_0_I_0 rfl rfl fun b10 => ?_
  refine TO.stB (us := [.slice none 0 0, U 0, U 0, I 0]) 0 [.slice none 0 0, U 0, U 0, I 0] rfl rfl rfl ksizeB_80_4_true rfl rfl rfl (by simp [Value.oneCell']) rfl ?_
  refine TO.code ?_
  refine TC.k ?_
  refine TC.k ?_
  refine TC.region ?_
  refine TO.s rfl rfl rfl (StepS.move rfl) ?_
  refine TO.s rfl rfl rfl (StepS.cmp rfl rfl rfl) ?_
  refine TO.code ?_
  obtain ⟨⟨y13, x14, x15, x16⟩, hj17, hm⟩ := bind_some hm
  first | refine TC.cutM (fun a w => ∃ v11 : Value, Mid 33 B [(5, .pointer (some ⟨b6, 0, none⟩)), (6, I r2), (7, I r8), (8, .pointer (some ⟨b10, 0, none⟩))] (OwnS 28 1 v11 (y13.map cI) :: Bx b10 80 [v11, U x14, U x15, I x16] :: Bx b6 80 [v4, U r1.2.1, U r1.2.2.1, I r1.2.2.2] :: OwnS 28 1 v4 (r1.1.map cI) :: L) a w) ?_ ?_ | refine TC.cutX (fun a w => ∃ v11 : Value, Mid 33 B [(5, .pointer (some ⟨b6, 0, none⟩)), (6, I r2), (7, I r8), (8, .pointer (some ⟨b10, 0, none⟩))] (OwnS 28 1 v11 (y13.map cI) :: Bx b10 80 [v11, U x14, U x15, I x16] :: Bx b6 80 [v4, U r1.2.1, U r1.2.2.1, I r1.2.2.2] :: OwnS 28 1 v4 (r1.1.map cI) :: L) a w) ?_ ?_
  · refine TC.cond rfl (fun hc18 => ?_) (fun hc18 => ?_)
    · replace hj17 := cond_t hc18 hj17
      refine TC.region ?_
      refine TO.s rfl rfl rfl (StepS.move rfl) ?_
      refine TO.s rfl rfl rfl (StepS.move rfl) ?_
      obtain ⟨r19, hc20, hj17⟩ := bind_some hj17
      refine TO.callO kcallB_39_true rfl rfl rfl (fun _ st => C39 e1.tl.tl.tl hc20 st) ?_
      rintro _ _ ⟨v21, rfl, rfl⟩
      refine TO.pure (fun _ s => Rd.one (OwnS.rd (Ent.at 0 rfl)) s) fun oc23 => ?_
      refine TO.stB (us := [v21, U r19.2.1, U r19.2.2.1, I r19.2.2.2]) 1 [v21, U r19.2.1, U r19.2.2.1, I r19.2.2.2] rfl rfl rfl ksizeB_80_4_true rfl rfl rfl (by intro u hu; simp only [List.mem_cons, List.not_mem_nil, or_false] at hu; rcases hu with rfl | rfl | rfl | rfl <;> first | exact oc23.1 | rfl) rfl ?_
      cases hj17
      refine TO.nil fun a w e s => ?_
      exact ⟨v21, e.sub (lk_of_allIn ⟨rfl, rfl, rfl, rfl, trivial⟩), s⟩
    · replace hj17 := cond_f hc18 hj17
      cases hj17
      refine TC.skip fun a w e s => ?_
      exact ⟨.slice none 0 0, e.sub (lk_of_allIn ⟨rfl, rfl, rfl, rfl, trivial⟩), s.mono fun _ s => (by replace s := Sat.nilS (e := 28) (sz := 1) (f := cI) s; exact Sat.by [3, 3, 3, 3] 4 0 (by kernel_rfl) s)⟩
  · intro a w ⟨v11, he, hs⟩
    refine TC.use ?_ he hs
    refine TC.k ?_
    refine TC.region ?_
    refine TO.s rfl rfl rfl (StepS.move rfl) ?_
    refine TO.s rfl rfl rfl (StepS.move rfl) ?_
    refine TO.s rfl rfl rfl (StepS.cmp rfl rfl rfl) ?_
    refine TO.s rfl rfl rfl (StepS.move rfl) ?_
    obtain ⟨b25, hj26, hm⟩ := bind_some hm
    refine TO.mid1 4 32 (.bool b25) ?_ ?_
    · refine bcase ((r2 == r8)) (fun hb24 => ?_) (fun hb24 => ?_)
      · replace hj26 := cond_t hb24 hj26
        refine TO.sw rfl rfl rfl hb24 rfl rfl (StepS.ldBA rfl (Ent.at 2 rfl) kaggB_80_4_true rfl rfl) ?_
        refine TO.sw rfl rfl rfl hb24 rfl rfl (StepS.ldBA rfl (Ent.at 1 rfl) kaggB_80_4_true rfl rfl) ?_
        obtain ⟨r27, hc28, hj26⟩ := bind_some hj26
        refine TO.qw rfl rfl rfl hb24 rfl rfl (StepQ.call kcallB_40_true rfl rfl (fun _ st => C40 (OwnS.rd (Ent.at 3 rfl)) (OwnS.rd (Ent.at 0 rfl)) hc28 st)) ?_
        cases hj26
        refine TO.s rfl rfl rfl (StepS.pickT rfl hb24 rfl) ?_
        exact TO.up1 4 0 rfl rfl rfl rfl
      · replace hj26 := cond_f hb24 hj26
        cases hj26
        refine TO.skip rfl rfl rfl (skipF hb24) rfl rfl ?_
        refine TO.skip rfl rfl rfl (skipF hb24) rfl rfl ?_
        refine TO.skip rfl rfl rfl (skipF hb24) rfl rfl ?_
        refine TO.s rfl rfl rfl (StepS.pickF rfl hb24 rfl) ?_
        exact TO.up1 4 0 rfl rfl rfl rfl
    refine TO.s rfl rfl rfl (StepS.assign rfl) ?_
    refine TO.code ?_
    cases hm
    refine TC.ret fun a w e s => ?_
    refine FRet.mk1 (P := Try.prog) (fn := Try.f11) (t := 4) e rfl rfl ?_
    exact ⟨rfl, s.mono fun _ => Sat.dropN 4⟩
end Go.Proofs.Ythfkdepcnhhepaa
