/-
  The walks: each Go function returns what its model says. Written by a program (gen.py).
-/
import Derived.Test.YthfkdepcnhhepaaProg
import Derived.KernelRfl
import Derived.Test.YthfkdepcnhhepaaKW
import Derived.Test.YthfkdepcnhhepaaUW
import Derived.Test.YthfkdepcnhhepaaVM
namespace Go.Proofs.Ythfkdepcnhhepaa
open Go Go.Bk
set_option linter.unusedVariables false
set_option linter.unnecessarySimpa false
theorem kscalB_136_true : scalB Try.prog 136 = true := by kernel_rfl
theorem ksizeB_136_1_true : sizeB Try.prog 136 1 = true := by kernel_rfl
theorem kinfo_115_bind_zero_some_slice_none_0_0 : (Try.prog.info? 115).bind (·.zero) = some (.slice none 0 0) := by kernel_rfl
theorem ksizeB_115_1_true : sizeB Try.prog 115 1 = true := by kernel_rfl
theorem kelemB_135_115_1_24_true : elemB Try.prog 135 115 1 24 = true := by kernel_rfl
theorem ksliceB_135_115_1_true : sliceB Try.prog 135 115 1 = true := by kernel_rfl
theorem kinfo_136_bind_zero_some_slice_none_0_0 : (Try.prog.info? 136).bind (·.zero) = some (.slice none 0 0) := by kernel_rfl
theorem kcallB_61_true : callB Try.prog 61 = true := by kernel_rfl
theorem kcallB_57_true : callB Try.prog 57 = true := by kernel_rfl
theorem kcallB_60_true : callB Try.prog 60 = true := by kernel_rfl
theorem kfieldB_138_2_2_true : fieldB Try.prog 138 2 2 = true := by kernel_rfl
theorem kcallB_62_true : callB Try.prog 62 = true := by kernel_rfl
theorem kcallB_26_true : callB Try.prog 26 = true := by kernel_rfl
theorem kcallB_21_true : callB Try.prog 21 = true := by kernel_rfl
theorem kcallB_27_true : callB Try.prog 27 = true := by kernel_rfl
theorem kcallB_18_true : callB Try.prog 18 = true := by kernel_rfl
theorem kunderlying_4_some_bool : Try.prog.underlying 4 = some .bool := by kernel_rfl
theorem kcallB_28_true : callB Try.prog 28 = true := by kernel_rfl

set_option maxRecDepth 100000 in
theorem C60 {B : World} {L : List HP} {a0 : Int} {a1 : List Bool} {a2 : List Int} {a3 : List Int} {a4 : Int} {a5 : List (Int × Int × Int)} {b1_ : Nat} {h1_1 : Value} {b2_ : Nat} {h2_1 : Value} {b3_ : Nat} {u3_0 : Value} {u3_1 : Value} {u3_3 : Value} {h3_1 : Value} {b4_ : Nat} {b5_ : Nat} {h5_1 : Value} {s0 : List Bool} {s1 : List Int} {s2 : List Int} {s3 : List (Int × Int × Int)} (g4 : Ent L (Bx b4_ 3 [I a4])) (hm : F60 a0 a1 a2 a3 a4 a5 = some (s0, s1, s2, s3)) {w : World} (st : St B (Bx b1_ 115 [h1_1] :: OwnS 4 1 h1_1 (a1.map cB) :: Bx b2_ 22 [h2_1] :: OwnS 3 1 h2_1 (a2.map cI) :: Bx b3_ 52 [u3_0, u3_1, h3_1, u3_3] :: OwnS 3 1 h3_1 (a3.map cI) :: Bx b5_ 136 [h5_1] :: OwnS 138 3 h5_1 (a5.map cTiii) :: L) w) : Calls Try.prog 60 #[I a0, .pointer (some ⟨b1_, 0, none⟩), .pointer (some ⟨b2_, 0, none⟩), .pointer (some ⟨b3_, 0, none⟩), .pointer (some ⟨b4_, 0, none⟩), .pointer (some ⟨b5_, 0, none⟩)] w (fun e w' => ∃ v M, e = .returned v ∧ (∃ (qv1 : Value) (qv2 : Value) (qv3 : Value), v = .tuple #[] ∧ M = (Bx b1_ 115 [qv1] :: OwnS 4 1 qv1 (s0.map cB) :: Bx b2_ 22 [qv2] :: OwnS 3 1 qv2 (s1.map cI) :: Bx b3_ 52 [u3_0, u3_1, h3_1, u3_3] :: OwnS 3 1 h3_1 (s2.map cI) :: Bx b5_ 136 [qv3] :: OwnS 138 3 qv3 (s3.map cTiii) :: L)) ∧ St B M w') := by
  refine calls_of (N := 37) (L := (Bx b1_ 115 [h1_1] :: OwnS 4 1 h1_1 (a1.map cB) :: Bx b2_ 22 [h2_1] :: OwnS 3 1 h2_1 (a2.map cI) :: Bx b3_ 52 [u3_0, u3_1, h3_1, u3_3] :: OwnS 3 1 h3_1 (a3.map cI) :: Bx b5_ 136 [h5_1] :: OwnS 138 3 h5_1 (a5.map cTiii) :: L)) (args := [I a0, .pointer (some ⟨b1_, 0, none⟩), .pointer (some ⟨b2_, 0, none⟩), .pointer (some ⟨b3_, 0, none⟩), .pointer (some ⟨b4_, 0, none⟩), .pointer (some ⟨b5_, 0, none⟩)]) Try.func60 rfl rfl rfl ?_ st
  dsimp only [F60] at hm
  refine TC.k ?_
  refine TC.k ?_
  refine TC.region ?_
  refine TO.s rfl rfl rfl (StepS.ldB rfl (Ent.at 0 rfl) kscalB_115_true rfl) ?_
  refine TO.s rfl rfl rfl (StepS.move rfl) ?_
  obtain ⟨x9, hx10, hm⟩ := bind_some hm
  refine TO.s rfl rfl rfl (StepS.idx rfl rfl (OwnS.rd (Ent.at 1 rfl)) ksliceB_115_4_1_true (idx_spec hx10).1 (idxm_lt hx10)) ?_
  refine TO.s rfl rfl rfl (StepS.ld0 rfl (OwnS.rd (Ent.at 1 rfl)) kscalB_4_true rfl (idxm hx10) rfl) ?_
  refine TO.code ?_
  refine TC.cond rfl (fun hc11 => ?_) (fun hc11 => ?_)
  · replace hm := cond_t hc11 hm
    cases hm
    refine TC.ret fun a w e s => ?_
    refine FRet.mk0 (P := Try.prog) (fn := Try.f60) e rfl ?_
    refine ⟨_, _, rfl, ⟨(h1_1), (h2_1), (h5_1), rfl, rfl⟩, ?_⟩
    refine s.mono fun _ s => ?_
    replace s := Sat.front 7 rfl s
    replace s := Sat.front 7 rfl s
    replace s := Sat.front 7 rfl s
    replace s := Sat.front 7 rfl s
    replace s := Sat.front 7 rfl s
    replace s := Sat.front 7 rfl s
    replace s := Sat.front 7 rfl s
    replace s := Sat.front 7 rfl s
    exact s
  · replace hm := cond_f hc11 hm
    refine TC.skipk ?_
    refine TC.k ?_
    refine TC.region ?_
    refine TO.s rfl rfl rfl (StepS.ldB rfl (Ent.at 0 rfl) kscalB_115_true rfl) ?_
    refine TO.s rfl rfl rfl (StepS.move rfl) ?_
    obtain ⟨x12, hx13, hm⟩ := bind_some hm
    refine TO.s rfl rfl rfl (StepS.idx rfl rfl (OwnS.rd (Ent.at 1 rfl)) ksliceB_115_4_1_true (idx_spec hx13).1 (idxm_lt hx13)) ?_
    refine TO.stO (i := a0.toNat) (off := 0) (us := [.bool true]) 1 true rfl rfl rfl ksizeB_4_1_true rfl rfl rfl (idx_spec hx13).2 rfl (by simp [Value.oneCell']) rfl ?_
    refine TO.code ?_
    refine TC.k ?_
    refine TC.region_tail 8 kfollows_mixedOrders_true (by kernel_rfl) ?_
    refine TS.s rfl rfl rfl (StepS.fld rfl kfieldB_52_2_2_true) ?_
    refine TS.s rfl rfl rfl (StepS.ldB rfl (Ent.at 4 rfl) kscalB_22_true rfl) ?_
    refine TS.s rfl rfl rfl (StepS.move rfl) ?_
    refine TS.s rfl rfl rfl (StepS.ldB rfl (Ent.at 2 rfl) kscalB_22_true rfl) ?_
    refine TS.s rfl rfl rfl (StepS.move rfl) ?_
    obtain ⟨x14, hx15, hm⟩ := bind_some hm
    refine TS.s rfl rfl rfl (StepS.idx rfl rfl (OwnS.rd (Ent.at 3 rfl)) ksliceB_22_3_1_true (idx_spec hx15).1 (idxm_lt hx15)) ?_
    refine TS.s rfl rfl rfl (StepS.ld0 rfl (OwnS.rd (Ent.at 3 rfl)) kscalB_3_true rfl (idxm hx15) rfl) ?_
    obtain ⟨x16, hx17, hm⟩ := bind_some hm
    refine TS.s rfl rfl rfl (StepS.idx rfl rfl (OwnS.rd (Ent.at 5 rfl)) ksliceB_22_3_1_true (idx_spec hx17).1 (idxm_lt hx17)) ?_
    refine TS.nil ?_
    refine TO.at ?_
    refine TO.stO (i := a0.toNat) (off := 0) (us := [I x14]) 5 x14 rfl rfl rfl ksizeB_3_1_true rfl rfl rfl (idx_spec hx17).2 rfl (by simp [Value.oneCell']) rfl ?_
    refine TO.code ?_
    refine TC.k ?_
    refine TC.region ?_
    refine TO.s rfl rfl rfl (StepS.assign rfl) ?_
    refine TO.code ?_
    obtain ⟨o26, hw27, hm⟩ := bind_some hm
    refine TC.loop hw27 (fun (y18, x20) => fun a w => ∃ v19 : Value, Mid 37 B [(0, I a0), (4, .pointer (some ⟨b4_, 0, none⟩)), (5, .pointer (some ⟨b5_, 0, none⟩)), (7, I x20)] (Bx b1_ 115 [h1_1] :: OwnS 4 1 h1_1 ((a1.set a0.toNat true).map cB) :: Bx b2_ 22 [h2_1] :: OwnS 3 1 h2_1 (a2.map cI) :: Bx b3_ 52 [u3_0, u3_1, h3_1, u3_3] :: OwnS 3 1 h3_1 ((a3.set a0.toNat x14).map cI) :: Bx b5_ 136 [v19] :: OwnS 138 3 v19 (y18.map cTiii) :: L) a w) (fun y24 => fun a w => ∃ v25 : Value, Mid 37 B [] (Bx b1_ 115 [h1_1] :: OwnS 4 1 h1_1 ((a1.set a0.toNat true).map cB) :: Bx b2_ 22 [h2_1] :: OwnS 3 1 h2_1 (a2.map cI) :: Bx b3_ 52 [u3_0, u3_1, h3_1, u3_3] :: OwnS 3 1 h3_1 ((a3.set a0.toNat x14).map cI) :: Bx b5_ 136 [v25] :: OwnS 138 3 v25 (y24.map cTiii) :: L) a w) (fun (_ : Unit) _ _ => False) ?_ ?_ ?_ ?_
    · rintro ⟨y18, x20⟩ o26r hb28 a w ⟨v19, he, hs⟩
      dsimp only [F60_L0] at hb28
      refine TC.use ?_ he hs
      refine TC.k ?_
      refine TC.k ?_
      refine TC.region ?_
      refine TO.s rfl rfl rfl (StepS.move rfl) ?_
      refine TO.s rfl rfl rfl (StepS.ldB rfl g4.tl.tl.tl.tl.tl.tl.tl.tl kscalB_3_true rfl) ?_
      refine TO.s rfl rfl rfl (StepS.cmp rfl rfl rfl) ?_
      refine TO.code ?_
      refine TC.cond rfl (fun hc29 => ?_) (fun hc29 => ?_)
      · replace hb28 := cond_t hc29 hb28
        refine TC.skipk ?_
        refine TC.k ?_
        obtain ⟨y30, hj32, hb28⟩ := bind_some hb28
        first | refine TC.cutM (fun a w => ∃ v31 : Value, Mid 37 B [(0, I a0), (4, .pointer (some ⟨b4_, 0, none⟩)), (5, .pointer (some ⟨b5_, 0, none⟩)), (7, I x20)] (Bx b1_ 115 [h1_1] :: OwnS 4 1 h1_1 ((a1.set a0.toNat true).map cB) :: Bx b2_ 22 [h2_1] :: OwnS 3 1 h2_1 (a2.map cI) :: Bx b3_ 52 [u3_0, u3_1, h3_1, u3_3] :: OwnS 3 1 h3_1 ((a3.set a0.toNat x14).map cI) :: Bx b5_ 136 [v31] :: OwnS 138 3 v31 (y30.map cTiii) :: L) a w) ?_ ?_ | refine TC.cutX (fun a w => ∃ v31 : Value, Mid 37 B [(0, I a0), (4, .pointer (some ⟨b4_, 0, none⟩)), (5, .pointer (some ⟨b5_, 0, none⟩)), (7, I x20)] (Bx b1_ 115 [h1_1] :: OwnS 4 1 h1_1 ((a1.set a0.toNat true).map cB) :: Bx b2_ 22 [h2_1] :: OwnS 3 1 h2_1 (a2.map cI) :: Bx b3_ 52 [u3_0, u3_1, h3_1, u3_3] :: OwnS 3 1 h3_1 ((a3.set a0.toNat x14).map cI) :: Bx b5_ 136 [v31] :: OwnS 138 3 v31 (y30.map cTiii) :: L) a w) ?_ ?_
        · refine TC.block ?_
          refine TC.k ?_
          refine TC.region ?_
          refine TO.s rfl rfl rfl (StepS.move rfl) ?_
          refine TO.s rfl rfl rfl (StepS.move rfl) ?_
          refine TO.s rfl rfl rfl (StepS.cmp rfl rfl rfl) ?_
          refine TO.code ?_
          refine TC.cond rfl (fun hc33 => ?_) (fun hc33 => ?_)
          · replace hj32 := cond_t hc33 hj32
            refine TC.region ?_
            refine TO.s rfl rfl rfl (StepS.ldB rfl (Ent.at 6 rfl) kscalB_136_true rfl) ?_
            refine TO.s rfl rfl rfl (StepS.move rfl) ?_
            refine TO.s rfl rfl rfl (StepS.move rfl) ?_
            refine TO.s rfl rfl rfl (StepS.build (cs := [I a0, I x20, I 0]) rfl (by kernel_rfl)) ?_
            refine TO.litS (f := cTiii) ([(a0, x20, 0)] : List (Int × Int × Int)) kelemB_136_138_3_24_true kinfo_138_bind_zero_some_agg_I_0_I_0_I_0 rfl rfl (fun _ => rfl) rfl rfl (by kernel_rfl) rfl fun v34 => ?_
            obtain ⟨y36, hk37, hj32⟩ := bind_some hj32
            refine TO.app (k := 8) (f := cTiii) kelemB_136_138_3_24_true (by decide) rfl rfl rfl (OwnS.rd (Ent.at 0 rfl)) hk37 (fun x c hc => by simp [Value.oneCell'] at hc ⊢; first | (obtain rfl := hc; rfl) | (rcases hc with rfl | rfl | rfl <;> rfl)) rfl rfl fun v38 => ?_
            refine TO.pure (fun _ s => Rd.one (OwnS.rd (Ent.at 8 rfl)) s) fun oc39 => ?_
            refine TO.stB (us := [v38]) 7 [v38] rfl rfl rfl ksizeB_136_1_true oc39.2 rfl rfl (by intro u hu; simp only [List.mem_cons, List.not_mem_nil, or_false] at hu; rcases hu with rfl <;> first | exact oc39.1 | rfl) rfl ?_
            cases hj32
            refine TO.nil fun a w e s => ?_
            exact ⟨v38, e.sub (lk_of_allIn ⟨rfl, rfl, rfl, rfl, trivial⟩), s.mono fun _ => Sat.dropN 1⟩
          · replace hj32 := cond_f hc33 hj32
            cases hj32
            refine TC.skip fun a w e s => ?_
            exact ⟨v19, e.sub (lk_of_allIn ⟨rfl, rfl, rfl, rfl, trivial⟩), s⟩
        · intro a w ⟨v31, he, hs⟩
          refine TC.use ?_ he hs
          refine TC.region ?_
          refine TO.s rfl rfl rfl (StepS.move rfl) ?_
          refine TO.s rfl rfl rfl (StepS.ari rfl rfl rfl) ?_
          refine TO.s rfl rfl rfl (StepS.assign rfl) ?_
          cases hb28
          refine TO.nil fun a w e s => ?_
          exact ⟨v31, e.sub (lk_of_allIn ⟨rfl, rfl, rfl, rfl, trivial⟩), s⟩
      · replace hb28 := cond_f hc29 hb28
        cases hb28
        refine TC.exit rfl fun a w e s => ?_
        exact ⟨v19, e.sub (lk_of_allIn trivial), s⟩
    · exact fun a w e s => ⟨h5_1, e.sub (lk_of_allIn ⟨rfl, rfl, rfl, rfl, trivial⟩), s⟩
    · rintro y24 rfl a w ⟨v25, he, hs⟩
      dsimp only [Ctl.on] at hm
      cases hm
      have e := he; have s := hs
      refine FRet.mk0 (P := Try.prog) (fn := Try.f60) e rfl ?_
      refine ⟨_, _, rfl, ⟨(h1_1), (h2_1), (v25), rfl, rfl⟩, ?_⟩
      refine s.mono fun _ s => ?_
      replace s := Sat.front 7 rfl s
      replace s := Sat.front 7 rfl s
      replace s := Sat.front 7 rfl s
      replace s := Sat.front 7 rfl s
      replace s := Sat.front 7 rfl s
      replace s := Sat.front 7 rfl s
      replace s := Sat.front 7 rfl s
      replace s := Sat.front 7 rfl s
      exact s
    · rintro r rfl
      exact fun a w h => h.elim

set_option maxHeartbeats 4000000 in
set_option maxRecDepth 100000 in
theorem C27 {B : World} {L : List HP} {a0 : Int} {a1 : List (Int × Int × Int × Int)} {h1 : Value} {r0 : (List Int) × Bool × (List Int) × List (List Int)} (e1 : Ent L (Rd 4 h1 (a1.map cTiiii))) (hm : F27 a0 a1 = some r0) {w : World} (st : St B L w) : Calls Try.prog 27 #[I a0, h1] w (fun e w' => ∃ v M, e = .returned v ∧ (∃ (qv1 : Value) (qv2 : Value) (qv3 : Value) (qhs4 : List Value), v = .agg #[qv1, .bool r0.2.1, qv2, qv3] ∧ M = (OwnS 28 1 qv1 (r0.1.map cI) :: OwnS 3 1 qv2 (r0.2.2.1.map cI) :: SS 22 3 1 cI qv3 qhs4 (r0.2.2.2) :: L)) ∧ St B M w') := by
  refine calls_of (N := 251) (L := L) (args := [I a0, h1]) Try.func27 rfl rfl rfl ?_ st
  dsimp only [F27] at hm
  refine TC.k ?_
  refine TC.region ?_
  refine TO.box (cs := [I a0]) rfl rfl rfl fun b4 => ?_
  refine TO.alloc kinfo_52_bind_zero_some_agg_slice_none_0_0_bool_false_slice_none_0_0_slice_none_0_0 rfl rfl fun b5 => ?_
  refine TO.code ?_
  refine TC.k ?_
  refine TC.region ?_
  refine TO.s rfl rfl rfl (StepS.ldB rfl (Ent.at 1 rfl) kscalB_3_true rfl) ?_
  obtain ⟨y6, hk7, hm⟩ := bind_some hm
  refine TO.mkS (f := cI) (za := 0) kelemB_22_3_1_8_true kinfo_3_bind_zero_some_I_0 rfl (by decide) rfl rfl hk7 rfl fun v8 => ?_
  refine TO.pure (fun _ s => Rd.one (OwnS.rd (Ent.at 0 rfl)) s) fun oc10 => ?_
  refine TO.s rfl rfl rfl (StepS.buildS (us := [(2, .agg #[v8])]) (cs := [.slice none 0 0, .bool false, v8, .slice none 0 0]) rfl (by simp only [List.map_cons, List.map_nil, oc10.2] <;> rfl) (by kernel_rfl)) ?_
  refine TO.alloc kinfo_52_bind_zero_some_agg_slice_none_0_0_bool_false_slice_none_0_0_slice_none_0_0 rfl rfl fun b11 => ?_
  refine TO.pure (fun _ s => Rd.one (OwnS.rd (Ent.at 1 rfl)) s) fun oc12 => ?_
  refine TO.stB (us := [.slice none 0 0, .bool false, v8, .slice none 0 0]) 0 [.slice none 0 0, .bool false, v8, .slice none 0 0] rfl rfl rfl ksizeB_52_4_true rfl rfl rfl (by intro u hu; simp only [List.mem_cons, List.not_mem_nil, or_false] at hu; rcases hu with rfl | rfl | rfl | rfl <;> first | exact oc12.1 | rfl) rfl ?_
  refine TO.code ?_
  refine TC.k ?_
  refine TC.region ?_
  refine TO.s rfl rfl rfl (StepS.ldB rfl (Ent.at 3 rfl) kscalB_3_true rfl) ?_
  obtain ⟨y13, hk14, hm⟩ := bind_some hm
  refine TO.mkS (f := cI) (za := 0) kelemB_22_3_1_8_true kinfo_3_bind_zero_some_I_0 rfl (by decide) rfl rfl hk14 rfl fun v15 => ?_
  refine TO.alloc kinfo_22_bind_zero_some_slice_none_0_0 rfl rfl fun b17 => ?_
  refine TO.pure (fun _ s => Rd.one (OwnS.rd (Ent.at 1 rfl)) s) fun oc18 => ?_
  refine TO.stB (us := [v15]) 0 [v15] rfl rfl rfl ksizeB_22_1_true oc18.2 rfl rfl (by intro u hu; simp only [List.mem_cons, List.not_mem_nil, or_false] at hu; rcases hu with rfl <;> first | exact oc18.1 | rfl) rfl ?_
  refine TO.code ?_
  refine TC.k ?_
  refine TC.region ?_
  refine TO.s rfl rfl rfl (StepS.ldB rfl (Ent.at 5 rfl) kscalB_3_true rfl) ?_
  obtain ⟨y19, hk20, hm⟩ := bind_some hm
  refine TO.mkS (f := cB) (za := false) kelemB_115_4_1_1_true kinfo_4_bind_zero_some_bool_false rfl (by decide) rfl rfl hk20 rfl fun v21 => ?_
  refine TO.alloc kinfo_115_bind_zero_some_slice_none_0_0 rfl rfl fun b23 => ?_
  refine TO.pure (fun _ s => Rd.one (OwnS.rd (Ent.at 1 rfl)) s) fun oc24 => ?_
  refine TO.stB (us := [v21]) 0 [v21] rfl rfl rfl ksizeB_115_1_true oc24.2 rfl rfl (by intro u hu; simp only [List.mem_cons, List.not_mem_nil, or_false] at hu; rcases hu with rfl <;> first | exact oc24.1 | rfl) rfl ?_
  refine TO.code ?_
  refine TC.k ?_
  refine TC.region ?_
  refine TO.s rfl rfl rfl (StepS.ldB rfl (Ent.at 7 rfl) kscalB_3_true rfl) ?_
  obtain ⟨y25, hk26, hm⟩ := bind_some hm
  refine TO.mkSSg (ee := 4) (sz := 1) (f := cB) kelemB_135_115_1_24_true kinfo_115_bind_zero_some_slice_none_0_0 rfl rfl hk26 rfl fun v27 hs28 => ?_
  refine TO.s rfl rfl rfl (StepS.assign rfl) ?_
  refine TO.code ?_
  refine TC.k ?_
  refine TC.k ?_
  refine TC.region ?_
  refine TO.s rfl rfl rfl (StepS.assign rfl) ?_
  refine TO.code ?_
  obtain ⟨o53, hw54, hm⟩ := bind_some hm
  refine TC.loop hw54 (fun (y33, y34, y36, x37) => fun a w => ∃ v30 : Value, ∃ hs31 : List Value, ∃ hs35 : List Value, Mid 251 B [(1, h1), (2, .pointer (some ⟨b4, 0, none⟩)), (4, .pointer (some ⟨b5, 0, none⟩)), (5, .pointer (some ⟨b11, 0, none⟩)), (6, .pointer (some ⟨b17, 0, none⟩)), (7, .pointer (some ⟨b23, 0, none⟩)), (8, v27), (9, I x37)] (SS 22 3 1 cI v30 hs31 (y33) :: SS 115 4 1 cB v27 hs35 (y34) :: Bx b23 115 [v21] :: OwnS 4 1 v21 (y19.map cB) :: Bx b17 22 [v15] :: OwnS 3 1 v15 (y36.map cI) :: Bx b11 52 [.slice none 0 0, .bool false, v8, v30] :: OwnS 3 1 v8 (y6.map cI) :: Bx b5 52 [.slice none 0 0, .bool false, .slice none 0 0, .slice none 0 0] :: Bx b4 3 [I a0] :: L) a w) (fun (y49, y50, y52) => fun a w => ∃ v46 : Value, ∃ hs47 : List Value, ∃ hs51 : List Value, Mid 251 B [(1, h1), (2, .pointer (some ⟨b4, 0, none⟩)), (4, .pointer (some ⟨b5, 0, none⟩)), (5, .pointer (some ⟨b11, 0, none⟩)), (6, .pointer (some ⟨b17, 0, none⟩)), (7, .pointer (some ⟨b23, 0, none⟩)), (8, v27)] (SS 22 3 1 cI v46 hs47 (y49) :: SS 115 4 1 cB v27 hs51 (y50) :: Bx b23 115 [v21] :: OwnS 4 1 v21 (y19.map cB) :: Bx b17 22 [v15] :: OwnS 3 1 v15 (y52.map cI) :: Bx b11 52 [.slice none 0 0, .bool false, v8, v46] :: OwnS 3 1 v8 (y6.map cI) :: Bx b5 52 [.slice none 0 0, .bool false, .slice none 0 0, .slice none 0 0] :: Bx b4 3 [I a0] :: L) a w) (fun (_ : Unit) _ _ => False) ?_ ?_ ?_ ?_
  · rintro ⟨y33, y34, y36, x37⟩ o53r hb55 a w ⟨v30, hs31, hs35, he, hs⟩
    dsimp only [F27_L0] at hb55
    refine TC.use ?_ he hs
    refine TC.k ?_
    refine TC.k ?_
    refine TC.region ?_
    refine TO.s rfl rfl rfl (StepS.move rfl) ?_
    refine TO.s rfl rfl rfl (StepS.ldB rfl (Ent.at 9 rfl) kscalB_3_true rfl) ?_
    refine TO.s rfl rfl rfl (StepS.cmp rfl rfl rfl) ?_
    refine TO.code ?_
    refine TC.cond rfl (fun hc56 => ?_) (fun hc56 => ?_)
    · replace hb55 := cond_t hc56 hb55
      refine TC.skipk ?_
      refine TC.k ?_
      refine TC.block ?_
      refine TC.k ?_
      refine TC.region ?_
      refine TO.s rfl rfl rfl (StepS.ldB rfl (Ent.at 4 rfl) kscalB_22_true rfl) ?_
      refine TO.s rfl rfl rfl (StepS.move rfl) ?_
      obtain ⟨x57, hx58, hb55⟩ := bind_some hb55
      refine TO.s rfl rfl rfl (StepS.idx rfl rfl (OwnS.rd (Ent.at 5 rfl)) ksliceB_22_3_1_true (idx_spec hx58).1 (idxm_lt hx58)) ?_
      refine TO.stO (i := x37.toNat) (off := 0) (us := [I 100]) 5 100 rfl rfl rfl ksizeB_3_1_true rfl rfl rfl (idx_spec hx58).2 rfl (by simp [Value.oneCell']) rfl ?_
      refine TO.code ?_
      refine TC.k ?_
      refine TC.region ?_
      refine TO.s rfl rfl rfl (StepS.move rfl) ?_
      refine TO.s rfl rfl rfl (StepS.move rfl) ?_
      refine TO.s rfl rfl rfl (StepS.ldB rfl (Ent.at 9 rfl) kscalB_3_true rfl) ?_
      obtain ⟨y59, hk60, hb55⟩ := bind_some hb55
      refine TO.mkS (f := cB) (za := false) kelemB_115_4_1_1_true kinfo_4_bind_zero_some_bool_false rfl (by decide) rfl rfl hk60 rfl fun v61 => ?_
      obtain ⟨x63, hx64, hb55⟩ := bind_some hb55
      refine TO.s rfl rfl rfl (StepS.idxRR rfl rfl (SS.rr (Ent.at 2 rfl)) ksliceB_135_115_1_true hx64) ?_
      refine TO.ghost (fun _ s => Sat.front 2 rfl s) ?_
      refine TO.stRow (xs := y59) rfl rfl hx64 ksizeB_115_1_true ?_
      refine TO.code ?_
      refine TC.region_any (SS 115 4 1 cB v27 (hs35.set x37.toNat v61) (y34.set x37.toNat y59) :: Bx b23 115 [v21] :: OwnS 4 1 v21 (y19.map cB) :: Bx b17 22 [v15] :: OwnS 3 1 v15 ((y36.set x37.toNat 100).map cI) :: Bx b11 52 [.slice none 0 0, .bool false, v8, v30] :: OwnS 3 1 v8 (y6.map cI) :: Bx b5 52 [.slice none 0 0, .bool false, .slice none 0 0, .slice none 0 0] :: Bx b4 3 [I a0] :: L) 7 8 kfollows_mixedOrders_true rfl ?_
      refine TA.takeW 0 rfl rfl rfl rfl (StepS.fld rfl kfieldB_52_3_3_true) (by kernel_rfl) (by kernel_rfl) (by kernel_rfl) rfl (.inr (fun _ s => Sat.by [9, 9, 9, 9, 9, 9, 9, 9, 8] 9 1 (by kernel_rfl) s)) ?_
      refine TA.take 1 rfl rfl rfl rfl (StepS.ldB rfl (Ent.at 5 rfl) kscalB_50_true rfl) (by kernel_rfl) (by kernel_rfl) (by kernel_rfl) (by kernel_rfl) (by kernel_rfl) (fun _ s => Sat.by [9, 9, 9, 9, 9, 9, 9, 9, 8] 9 1 (by kernel_rfl) s) ?_
      refine TA.take 2 rfl rfl rfl rfl (StepS.ldB rfl (Ent.at 8 rfl) kscalB_3_true rfl) (by kernel_rfl) (by kernel_rfl) (by kernel_rfl) (by kernel_rfl) (by kernel_rfl) (fun _ s => Sat.by [9, 9, 9, 9, 9, 9, 9, 9, 8] 9 1 (by kernel_rfl) s) ?_
      refine TA.all1 (i := 3) (by kernel_rfl) ?_
      refine TB.of rfl ?_
      obtain ⟨yq65_3_1, hkq65_3_2, hb55⟩ := bind_some hb55
      refine TO.mkS (f := cI) (za := 0) kelemB_22_3_1_8_true kinfo_3_bind_zero_some_I_0 rfl (by decide) rfl rfl hkq65_3_2 rfl fun vq65_3_3 => ?_
      refine TA.back (.inr (fun _ s => Sat.by [10, 10, 10, 10, 10, 10, 10, 10, 9] 9 2 (by kernel_rfl) s)) ?_
      refine TA.asL (L' := (OwnS 3 1 vq65_3_3 (yq65_3_1.map cI) :: SS 115 4 1 cB v27 (hs35.set x37.toNat v61) (y34.set x37.toNat y59) :: SS 22 3 1 cI v30 hs31 (y33) :: Bx b23 115 [v21] :: OwnS 4 1 v21 (y19.map cB) :: Bx b17 22 [v15] :: OwnS 3 1 v15 ((y36.set x37.toNat 100).map cI) :: Bx b11 52 [.slice none 0 0, .bool false, v8, v30] :: OwnS 3 1 v8 (y6.map cI) :: Bx b5 52 [.slice none 0 0, .bool false, .slice none 0 0, .slice none 0 0] :: Bx b4 3 [I a0] :: L)) (listed' := #[true, true, true, true, false, false, false, false]) (by kernel_rfl) (by kernel_rfl) ?_
      refine TA.all1 (i := 4) (by kernel_rfl) ?_
      refine TB.of rfl ?_
      refine TO.lit1H rfl (OwnS.rd (Ent.at 0 rfl)) kelemB_50_22_1_24_true rfl fun vq65_4_1 => ?_
      refine TA.back (.inr (fun _ s => Sat.by [11, 11, 11, 11, 11, 11, 11, 11, 10] 9 3 (by kernel_rfl) s)) ?_
      refine TA.asL (L' := (OwnS 22 1 vq65_4_1 ([()].map (fun (_ : Unit) => [vq65_3_3])) :: OwnS 3 1 vq65_3_3 (yq65_3_1.map cI) :: SS 115 4 1 cB v27 (hs35.set x37.toNat v61) (y34.set x37.toNat y59) :: SS 22 3 1 cI v30 hs31 (y33) :: Bx b23 115 [v21] :: OwnS 4 1 v21 (y19.map cB) :: Bx b17 22 [v15] :: OwnS 3 1 v15 ((y36.set x37.toNat 100).map cI) :: Bx b11 52 [.slice none 0 0, .bool false, v8, v30] :: OwnS 3 1 v8 (y6.map cI) :: Bx b5 52 [.slice none 0 0, .bool false, .slice none 0 0, .slice none 0 0] :: Bx b4 3 [I a0] :: L)) (listed' := #[true, true, true, true, true, false, false, false]) (by kernel_rfl) (by kernel_rfl) ?_
      refine TA.all1 (i := 5) (by kernel_rfl) ?_
      refine TB.of rfl ?_
      refine TO.ghost (fun _ s => Sat.front 3 rfl s) ?_
      refine TO.ghost (fun _ s => Sat.front 2 rfl s) ?_
      obtain ⟨yq65_5_1, hkq65_5_2, hb55⟩ := bind_some hb55
      refine TO.appSS (row := yq65_3_1) rfl kelemB_50_22_1_24_true rfl rfl (OwnS.rd (Ent.at 0 rfl)) hkq65_5_2 rfl rfl fun vq65_5_3 hsq65_5_4 => ?_
      refine TA.back (.inr (fun _ s => Sat.by [10, 10, 10, 10, 10, 10, 10, 10, 10] 9 2 (by kernel_rfl) s)) ?_
      refine TA.asL (L' := (SS 22 3 1 cI vq65_5_3 hsq65_5_4 (yq65_5_1) :: OwnS 22 1 vq65_4_1 ([()].map (fun (_ : Unit) => [vq65_3_3])) :: SS 115 4 1 cB v27 (hs35.set x37.toNat v61) (y34.set x37.toNat y59) :: Bx b23 115 [v21] :: OwnS 4 1 v21 (y19.map cB) :: Bx b17 22 [v15] :: OwnS 3 1 v15 ((y36.set x37.toNat 100).map cI) :: Bx b11 52 [.slice none 0 0, .bool false, v8, v30] :: OwnS 3 1 v8 (y6.map cI) :: Bx b5 52 [.slice none 0 0, .bool false, .slice none 0 0, .slice none 0 0] :: Bx b4 3 [I a0] :: L)) (listed' := #[true, true, true, true, true, true, false, false]) (by kernel_rfl) (by kernel_rfl) ?_
      refine TA.takeW 6 rfl rfl rfl rfl (StepS.fld rfl kfieldB_52_3_3_true) (by kernel_rfl) (by kernel_rfl) (by kernel_rfl) rfl (.inr (fun _ s => Sat.by [10, 10, 10, 10, 10, 10, 10, 10, 10] 9 2 (by kernel_rfl) s)) ?_
      refine TA.all1 (i := 7) (by kernel_rfl) ?_
      refine TB.of rfl ?_
      refine TO.pure (fun _ s => Rd.one (RR.top (SS.rr (Ent.at 0 rfl))) s) fun ocq65_7_1 => ?_
      refine TO.stB (us := [vq65_5_3]) 7 [.slice none 0 0, .bool false, v8, vq65_5_3] rfl rfl rfl ksizeB_50_1_true ocq65_7_1.2 rfl rfl (by intro u hu; simp only [List.mem_cons, List.not_mem_nil, or_false] at hu; rcases hu with rfl <;> first | exact ocq65_7_1.1 | rfl) rfl ?_
      refine TA.back (.inl (by kernel_rfl)) ?_
      refine TA.asL (L' := (SS 22 3 1 cI vq65_5_3 hsq65_5_4 (yq65_5_1) :: OwnS 22 1 vq65_4_1 ([()].map (fun (_ : Unit) => [vq65_3_3])) :: SS 115 4 1 cB v27 (hs35.set x37.toNat v61) (y34.set x37.toNat y59) :: Bx b23 115 [v21] :: OwnS 4 1 v21 (y19.map cB) :: Bx b17 22 [v15] :: OwnS 3 1 v15 ((y36.set x37.toNat 100).map cI) :: Bx b11 52 [.slice none 0 0, .bool false, v8, vq65_5_3] :: OwnS 3 1 v8 (y6.map cI) :: Bx b5 52 [.slice none 0 0, .bool false, .slice none 0 0, .slice none 0 0] :: Bx b4 3 [I a0] :: L)) (listed' := #[true, true, true, true, true, true, true, true]) (by kernel_rfl) (by kernel_rfl) ?_
      refine TA.code (by kernel_rfl) ?_
      refine TC.region ?_
      refine TO.s rfl rfl rfl (StepS.move rfl) ?_
      refine TO.s rfl rfl rfl (StepS.ari rfl rfl rfl) ?_
      refine TO.s rfl rfl rfl (StepS.assign rfl) ?_
      cases hb55
      refine TO.nil fun a w e s => ?_
      exact ⟨vq65_5_3, hsq65_5_4, (hs35.set x37.toNat v61), e.sub (lk_of_allIn ⟨rfl, rfl, rfl, rfl, rfl, rfl, rfl, rfl, trivial⟩), s.mono fun _ s => (by exact Sat.by [10, 10, 10, 10, 10, 10, 10, 10, 10, 9] 10 1 (by kernel_rfl) s)⟩
    · replace hb55 := cond_f hc56 hb55
      cases hb55
      refine TC.exit rfl fun a w e s => ?_
      exact ⟨v30, hs31, hs35, e.sub (lk_of_allIn ⟨rfl, rfl, rfl, rfl, rfl, rfl, rfl, trivial⟩), s⟩
  · exact fun a w e s => ⟨.slice none 0 0, [], hs28, e.sub (lk_of_allIn ⟨rfl, rfl, rfl, rfl, rfl, rfl, rfl, rfl, trivial⟩), s.mono fun _ s => (by replace s := Sat.nilSS (e := 22) (ee := 3) (sz := 1) (f := cI) s; exact Sat.by [9, 9, 9, 9, 9, 9, 9, 9, 9, 9] 10 0 (by kernel_rfl) s)⟩
  · rintro ⟨y49, y50, y52⟩ rfl a w ⟨v46, hs47, hs51, he, hs⟩
    dsimp only [Ctl.on] at hm
    refine TC.use ?_ he hs
    refine TC.k ?_
    refine TC.region ?_
    refine TO.alloc kinfo_136_bind_zero_some_slice_none_0_0 rfl rfl fun b66 => ?_
    refine TO.code ?_
    refine TC.k ?_
    refine TC.region ?_
    refine TO.s rfl rfl rfl (StepS.mkfn rfl) ?_
    refine TO.s rfl rfl rfl (StepS.assign rfl) ?_
    refine TO.code ?_
    refine TC.k ?_
    refine TC.k ?_
    refine TC.region ?_
    refine TO.s rfl rfl rfl (StepS.move rfl) ?_
    refine TO.s rfl rfl rfl (StepS.lenm rfl e1.tl.tl.tl.tl.tl.tl.tl.tl.tl.tl.tl ksliceB_23_106_4_true rfl) ?_
    refine TO.s rfl rfl rfl (StepS.move rfl) ?_
    refine TO.code ?_
    obtain ⟨o128, hw129, hm⟩ := bind_some hm
    refine TC.loop hw129 (fun (y83, y86, y89, y92, y93, y94, y95, x96) => fun a w => ∃ v81 : Value, ∃ v84 : Value, ∃ v87 : Value, ∃ v90 : Value, Mid 251 B [(2, .pointer (some ⟨b4, 0, none⟩)), (4, .pointer (some ⟨b5, 0, none⟩)), (5, .pointer (some ⟨b11, 0, none⟩)), (6, .pointer (some ⟨b17, 0, none⟩)), (7, .pointer (some ⟨b23, 0, none⟩)), (8, v27), (10, .pointer (some ⟨b66, 0, none⟩)), (11, .func (.func 60) #[] #[.pointer (some ⟨b23, 0, none⟩), .pointer (some ⟨b17, 0, none⟩), .pointer (some ⟨b11, 0, none⟩), .pointer (some ⟨b4, 0, none⟩), .pointer (some ⟨b66, 0, none⟩)]), (49, h1), (50, I (a1.length : Int)), (51, I x96)] (OwnS 138 3 v81 (y83.map cTiii) :: OwnS 4 1 v84 (y86.map cB) :: OwnS 3 1 v87 (y89.map cI) :: OwnS 28 1 v90 (y92.map cI) :: Bx b66 136 [v81] :: SS 22 3 1 cI v46 hs47 (y93) :: SS 115 4 1 cB v27 hs51 (y94) :: Bx b23 115 [v84] :: Bx b17 22 [v87] :: Bx b11 52 [v90, .bool false, v8, v46] :: OwnS 3 1 v8 (y95.map cI) :: Bx b5 52 [.slice none 0 0, .bool false, .slice none 0 0, .slice none 0 0] :: Bx b4 3 [I a0] :: L) a w) (fun (y115, y118, y121, y124, y125, y126, y127) => fun a w => ∃ v113 : Value, ∃ v116 : Value, ∃ v119 : Value, ∃ v122 : Value, Mid 251 B [(2, .pointer (some ⟨b4, 0, none⟩)), (4, .pointer (some ⟨b5, 0, none⟩)), (5, .pointer (some ⟨b11, 0, none⟩)), (7, .pointer (some ⟨b23, 0, none⟩)), (8, v27)] (OwnS 138 3 v113 (y115.map cTiii) :: OwnS 4 1 v116 (y118.map cB) :: OwnS 3 1 v119 (y121.map cI) :: OwnS 28 1 v122 (y124.map cI) :: Bx b66 136 [v113] :: SS 22 3 1 cI v46 hs47 (y125) :: SS 115 4 1 cB v27 hs51 (y126) :: Bx b23 115 [v116] :: Bx b17 22 [v119] :: Bx b11 52 [v122, .bool false, v8, v46] :: OwnS 3 1 v8 (y127.map cI) :: Bx b5 52 [.slice none 0 0, .bool false, .slice none 0 0, .slice none 0 0] :: Bx b4 3 [I a0] :: L) a w) (fun (_ : Unit) _ _ => False) ?_ ?_ ?_ ?_
    · rintro ⟨y83, y86, y89, y92, y93, y94, y95, x96⟩ o128r hb130 a w ⟨v81, v84, v87, v90, he, hs⟩
      dsimp only [F27_L1] at hb130
      refine TC.use ?_ he hs
      refine TC.k ?_
      refine TC.region ?_
      refine TO.s rfl rfl rfl (StepS.cmp rfl rfl rfl) ?_
      refine TO.code ?_
      refine TC.k ?_
      refine TC.cond rfl (fun hc131 => ?_) (fun hc131 => ?_)
      · replace hb130 := cond_t hc131 hb130
        refine TC.skipk ?_
        refine TC.k ?_
        refine TC.block ?_
        refine TC.k ?_
        refine TC.region ?_
        obtain ⟨x132, hx133, hb130⟩ := bind_some hb130
        refine TO.s rfl rfl rfl (StepS.idx rfl rfl e1.tl.tl.tl.tl.tl.tl.tl.tl.tl.tl.tl.tl.tl ksliceB_23_106_4_true (idx_spec hx133).1 (idxm_lt hx133)) ?_
        refine TO.s rfl rfl rfl (StepS.ldE rfl e1.tl.tl.tl.tl.tl.tl.tl.tl.tl.tl.tl.tl.tl kaggB_106_4_true rfl (idxm hx133)) ?_
        refine TO.alloc kinfo_106_bind_zero_some_agg_I_0_I_0_I_0_I_0 rfl rfl fun b134 => ?_
        refine TO.stB (us := [I x132.1, I x132.2.1, I x132.2.2.1, I x132.2.2.2]) 0 [I x132.1, I x132.2.1, I x132.2.2.1, I x132.2.2.2] rfl rfl rfl ksizeB_106_4_true rfl rfl rfl (by simp [Value.oneCell']) rfl ?_
        refine TO.code ?_
        refine TC.k ?_
        refine TC.region ?_
        refine TO.s rfl rfl rfl (StepS.assign rfl) ?_
        refine TO.code ?_
        refine TC.k ?_
        refine TC.region ?_
        refine TO.s rfl rfl rfl (StepS.ldB rfl (Ent.at 5 rfl) kscalB_136_true rfl) ?_
        refine TO.s rfl rfl rfl (StepS.fld rfl kfieldB_106_1_1_true) ?_
        refine TO.s rfl rfl rfl (StepS.ldB rfl (Ent.at 0 rfl) kscalB_3_true rfl) ?_
        refine TO.s rfl rfl rfl (StepS.fld rfl kfieldB_106_2_2_true) ?_
        refine TO.s rfl rfl rfl (StepS.ldB rfl (Ent.at 0 rfl) kscalB_3_true rfl) ?_
        obtain ⟨r135, hc136, hb130⟩ := bind_some hb130
        refine TO.q rfl rfl rfl (StepQ.call kcallB_61_true rfl rfl (fun _ st => C61 (OwnS.rd (Ent.at 1 rfl)) hc136 st)) ?_
        refine TO.s rfl rfl rfl (StepS.assign rfl) ?_
        refine TO.code ?_
        refine TC.k ?_
        refine TC.k ?_
        refine TC.region ?_
        refine TO.s rfl rfl rfl (StepS.fld rfl kfieldB_106_0_0_true) ?_
        refine TO.s rfl rfl rfl (StepS.ldB rfl (Ent.at 0 rfl) kscalB_3_true rfl) ?_
        refine TO.s rfl rfl rfl (StepS.cmp rfl rfl rfl) ?_
        refine TO.s rfl rfl rfl (StepS.move rfl) ?_
        refine TO.mid1 4 68 (.bool ((decide (x132.1 < 1)) || (decide (x132.1 > 3)))) ?_ ?_
        · refine bcase ((decide (x132.1 < 1))) (fun hb137 => ?_) (fun hb137 => ?_)
          · refine TO.skip rfl rfl rfl (skipT hb137) rfl rfl ?_
            refine TO.skip rfl rfl rfl (skipT hb137) rfl rfl ?_
            refine TO.skip rfl rfl rfl (skipT hb137) rfl rfl ?_
            refine TO.s rfl rfl rfl (StepS.pickT rfl hb137 rfl) ?_
            exact TO.up1 4 0 rfl rfl (by rw [hb137]; rfl) rfl
          · refine TO.sw rfl rfl rfl hb137 rfl rfl (StepS.fld rfl kfieldB_106_0_0_true) ?_
            refine TO.sw rfl rfl rfl hb137 rfl rfl (StepS.ldB rfl (Ent.at 0 rfl) kscalB_3_true rfl) ?_
            refine TO.sw rfl rfl rfl hb137 rfl rfl (StepS.cmp rfl rfl rfl) ?_
            refine TO.s rfl rfl rfl (StepS.pickF rfl hb137 rfl) ?_
            exact TO.up1 4 0 rfl rfl (by rw [hb137]; rfl) rfl
        refine TO.code ?_
        obtain ⟨⟨y140, y143, y146, y147, y148, y149, x150⟩, hj151, hb130⟩ := bind_some hb130
        first | refine TC.cutM (fun a w => ∃ v138 : Value, ∃ v141 : Value, ∃ v144 : Value, Mid 251 B [(2, .pointer (some ⟨b4, 0, none⟩)), (4, .pointer (some ⟨b5, 0, none⟩)), (5, .pointer (some ⟨b11, 0, none⟩)), (6, .pointer (some ⟨b17, 0, none⟩)), (7, .pointer (some ⟨b23, 0, none⟩)), (8, v27), (10, .pointer (some ⟨b66, 0, none⟩)), (11, .func (.func 60) #[] #[.pointer (some ⟨b23, 0, none⟩), .pointer (some ⟨b17, 0, none⟩), .pointer (some ⟨b11, 0, none⟩), .pointer (some ⟨b4, 0, none⟩), .pointer (some ⟨b66, 0, none⟩)]), (14, I x150), (49, h1), (50, I (a1.length : Int)), (51, I x96)] (OwnS 138 3 v138 (y140.map cTiii) :: OwnS 4 1 v141 (y143.map cB) :: OwnS 3 1 v144 (y146.map cI) :: Bx b134 106 [I x132.1, I x132.2.1, I x132.2.2.1, I x132.2.2.2] :: OwnS 28 1 v90 (y92.map cI) :: Bx b66 136 [v138] :: SS 22 3 1 cI v46 hs47 (y147) :: SS 115 4 1 cB v27 hs51 (y148) :: Bx b23 115 [v141] :: Bx b17 22 [v144] :: Bx b11 52 [v90, .bool false, v8, v46] :: OwnS 3 1 v8 (y149.map cI) :: Bx b5 52 [.slice none 0 0, .bool false, .slice none 0 0, .slice none 0 0] :: Bx b4 3 [I a0] :: L) a w) ?_ ?_ | refine TC.cutX (fun a w => ∃ v138 : Value, ∃ v141 : Value, ∃ v144 : Value, Mid 251 B [(2, .pointer (some ⟨b4, 0, none⟩)), (4, .pointer (some ⟨b5, 0, none⟩)), (5, .pointer (some ⟨b11, 0, none⟩)), (6, .pointer (some ⟨b17, 0, none⟩)), (7, .pointer (some ⟨b23, 0, none⟩)), (8, v27), (10, .pointer (some ⟨b66, 0, none⟩)), (11, .func (.func 60) #[] #[.pointer (some ⟨b23, 0, none⟩), .pointer (some ⟨b17, 0, none⟩), .pointer (some ⟨b11, 0, none⟩), .pointer (some ⟨b4, 0, none⟩), .pointer (some ⟨b66, 0, none⟩)]), (14, I x150), (49, h1), (50, I (a1.length : Int)), (51, I x96)] (OwnS 138 3 v138 (y140.map cTiii) :: OwnS 4 1 v141 (y143.map cB) :: OwnS 3 1 v144 (y146.map cI) :: Bx b134 106 [I x132.1, I x132.2.1, I x132.2.2.1, I x132.2.2.2] :: OwnS 28 1 v90 (y92.map cI) :: Bx b66 136 [v138] :: SS 22 3 1 cI v46 hs47 (y147) :: SS 115 4 1 cB v27 hs51 (y148) :: Bx b23 115 [v141] :: Bx b17 22 [v144] :: Bx b11 52 [v90, .bool false, v8, v46] :: OwnS 3 1 v8 (y149.map cI) :: Bx b5 52 [.slice none 0 0, .bool false, .slice none 0 0, .slice none 0 0] :: Bx b4 3 [I a0] :: L) a w) ?_ ?_
        · refine TC.cond rfl (fun hc152 => ?_) (fun hc152 => ?_)
          · replace hj151 := cond_t hc152 hj151
            refine TC.region ?_
            refine TO.s rfl rfl rfl (StepS.assign rfl) ?_
            cases hj151
            refine TO.nil fun a w e s => ?_
            exact ⟨v81, v84, v87, e.sub (lk_of_allIn ⟨rfl, rfl, rfl, rfl, rfl, rfl, rfl, rfl, rfl, rfl, rfl, rfl, trivial⟩), s.mono fun _ s => (by exact Sat.by [13, 13, 13, 13, 13, 13, 13, 13, 13, 13, 10, 13, 13, 13] 14 0 (by kernel_rfl) s)⟩
          · replace hj151 := cond_f hc152 hj151
            refine TC.k ?_
            refine TC.region ?_
            refine TO.s rfl rfl rfl (StepS.ldB rfl (Ent.at 13 rfl) kscalB_3_true rfl) ?_
            refine TO.s rfl rfl rfl (StepS.ldBA rfl (Ent.at 0 rfl) kaggB_106_4_true rfl rfl) ?_
            refine TO.s rfl rfl rfl (StepS.fld rfl kfieldB_106_0_0_true) ?_
            refine TO.s rfl rfl rfl (StepS.ldB rfl (Ent.at 0 rfl) kscalB_3_true rfl) ?_
            refine TO.s rfl rfl rfl (StepS.cmp rfl rfl rfl) ?_
            obtain ⟨r153, hc154, hj151⟩ := bind_some hj151
            refine TO.q rfl rfl rfl (StepQ.call kcallB_57_true rfl rfl (fun _ st => C57  hc154 st)) ?_
            refine TO.s rfl rfl rfl (StepS.not rfl) ?_
            refine TO.code ?_
            refine TC.cond rfl (fun hc155 => ?_) (fun hc155 => ?_)
            · replace hj151 := cond_t hc155 hj151
              refine TC.region ?_
              refine TO.s rfl rfl rfl (StepS.assign rfl) ?_
              cases hj151
              refine TO.nil fun a w e s => ?_
              exact ⟨v81, v84, v87, e.sub (lk_of_allIn ⟨rfl, rfl, rfl, rfl, rfl, rfl, rfl, rfl, rfl, rfl, rfl, rfl, trivial⟩), s.mono fun _ s => (by exact Sat.by [13, 13, 13, 13, 13, 13, 13, 13, 13, 13, 10, 13, 13, 13] 14 0 (by kernel_rfl) s)⟩
            · replace hj151 := cond_f hc155 hj151
              refine TC.k ?_
              refine TC.region ?_
              refine TO.s rfl rfl rfl (StepS.fld rfl kfieldB_106_0_0_true) ?_
              refine TO.s rfl rfl rfl (StepS.ldB rfl (Ent.at 0 rfl) kscalB_3_true rfl) ?_
              refine TO.s rfl rfl rfl (StepS.cmp rfl rfl rfl) ?_
              refine TO.s rfl rfl rfl (StepS.move rfl) ?_
              obtain ⟨b157, hj158, hj151⟩ := bind_some hj151
              refine TO.mid1 6 85 (.bool b157) ?_ ?_
              · refine bcase ((x132.1 == 3)) (fun hb156 => ?_) (fun hb156 => ?_)
                · replace hj158 := cond_t hb156 hj158
                  refine TO.sw rfl rfl rfl hb156 rfl rfl (StepS.ldB rfl (Ent.at 8 rfl) kscalB_115_true rfl) ?_
                  refine TO.sw rfl rfl rfl hb156 rfl rfl (StepS.fld rfl kfieldB_106_1_1_true) ?_
                  refine TO.sw rfl rfl rfl hb156 rfl rfl (StepS.ldB rfl (Ent.at 0 rfl) kscalB_3_true rfl) ?_
                  obtain ⟨x159, hx160, hj158⟩ := bind_some hj158
                  refine TO.sw rfl rfl rfl hb156 rfl rfl (StepS.idx rfl rfl (OwnS.rd (Ent.at 2 rfl)) ksliceB_115_4_1_true (idx_spec hx160).1 (idxm_lt hx160)) ?_
                  refine TO.sw rfl rfl rfl hb156 rfl rfl (StepS.ld0 rfl (OwnS.rd (Ent.at 2 rfl)) kscalB_4_true rfl (idxm hx160) rfl) ?_
                  cases hj158
                  refine TO.s rfl rfl rfl (StepS.pickT rfl hb156 rfl) ?_
                  exact TO.up1 6 0 rfl rfl rfl rfl
                · replace hj158 := cond_f hb156 hj158
                  cases hj158
                  refine TO.skip rfl rfl rfl (skipF hb156) rfl rfl ?_
                  refine TO.skip rfl rfl rfl (skipF hb156) rfl rfl ?_
                  refine TO.skip rfl rfl rfl (skipF hb156) rfl rfl ?_
                  refine TO.skip rfl rfl rfl (skipF hb156) rfl rfl ?_
                  refine TO.skip rfl rfl rfl (skipF hb156) rfl rfl ?_
                  refine TO.s rfl rfl rfl (StepS.pickF rfl hb156 rfl) ?_
                  exact TO.up1 6 0 rfl rfl rfl rfl
              refine TO.code ?_
              refine TC.cond rfl (fun hc161 => ?_) (fun hc161 => ?_)
              · replace hj151 := cond_t hc161 hj151
                refine TC.region ?_
                refine TO.s rfl rfl rfl (StepS.assign rfl) ?_
                cases hj151
                refine TO.nil fun a w e s => ?_
                exact ⟨v81, v84, v87, e.sub (lk_of_allIn ⟨rfl, rfl, rfl, rfl, rfl, rfl, rfl, rfl, rfl, rfl, rfl, rfl, trivial⟩), s.mono fun _ s => (by exact Sat.by [13, 13, 13, 13, 13, 13, 13, 13, 13, 13, 10, 13, 13, 13] 14 0 (by kernel_rfl) s)⟩
              · replace hj151 := cond_f hc161 hj151
                refine TC.k ?_
                refine TC.region ?_
                refine TO.s rfl rfl rfl (StepS.fld rfl kfieldB_106_0_0_true) ?_
                refine TO.s rfl rfl rfl (StepS.ldB rfl (Ent.at 0 rfl) kscalB_3_true rfl) ?_
                refine TO.s rfl rfl rfl (StepS.cmp rfl rfl rfl) ?_
                refine TO.code ?_
                refine TC.cond rfl (fun hc162 => ?_) (fun hc162 => ?_)
                · replace hj151 := cond_t hc162 hj151
                  refine TC.region ?_
                  refine TO.s rfl rfl rfl (StepS.move rfl) ?_
                  refine TO.s rfl rfl rfl (StepS.fld rfl kfieldB_106_1_1_true) ?_
                  refine TO.s rfl rfl rfl (StepS.ldB rfl (Ent.at 0 rfl) kscalB_3_true rfl) ?_
                  refine TO.ghost (fun _ s => Sat.front 1 rfl s) ?_
                  refine TO.ghost (fun _ s => Sat.front 5 rfl s) ?_
                  refine TO.ghost (fun _ s => Sat.front 11 rfl s) ?_
                  refine TO.ghost (fun _ s => Sat.front 11 rfl s) ?_
                  refine TO.ghost (fun _ s => Sat.front 6 rfl s) ?_
                  refine TO.ghost (fun _ s => Sat.front 11 rfl s) ?_
                  refine TO.ghost (fun _ s => Sat.front 7 rfl s) ?_
                  refine TO.ghost (fun _ s => Sat.front 11 rfl s) ?_
                  obtain ⟨⟨r163, r164, r165, r166⟩, hc167, hj151⟩ := bind_some hj151
                  refine TO.callOC kcallB_60_true rfl rfl rfl rfl (fun _ st => C60 (a1 := y86) (a2 := y89) (a3 := y95) (a5 := y83) (Ent.at 5 rfl) hc167 st) ?_
                  rintro _ _ ⟨v168, v170, v173, rfl, rfl⟩
                  cases hj151
                  refine TO.nil fun a w e s => ?_
                  exact ⟨v173, v168, v170, e.sub (lk_of_allIn ⟨rfl, rfl, rfl, rfl, rfl, rfl, rfl, rfl, rfl, rfl, rfl, rfl, trivial⟩), s.mono fun _ s => (by exact Sat.by [13, 13, 7, 7, 6, 5, 13, 13, 10, 13, 13, 12, 12, 13] 14 0 (by kernel_rfl) s)⟩
                · replace hj151 := cond_f hc162 hj151
                  refine TC.k ?_
                  refine TC.region ?_
                  refine TO.s rfl rfl rfl (StepS.fld rfl kfieldB_106_0_0_true) ?_
                  refine TO.s rfl rfl rfl (StepS.ldB rfl (Ent.at 0 rfl) kscalB_3_true rfl) ?_
                  refine TO.s rfl rfl rfl (StepS.cmp rfl rfl rfl) ?_
                  refine TO.s rfl rfl rfl (StepS.move rfl) ?_
                  refine TO.mid1 3 99 (.bool ((x132.1 == 2) && (decide (r135 < 0)))) ?_ ?_
                  · refine bcase ((x132.1 == 2)) (fun hb175 => ?_) (fun hb175 => ?_)
                    · refine TO.sw rfl rfl rfl hb175 rfl rfl (StepS.move rfl) ?_
                      refine TO.sw rfl rfl rfl hb175 rfl rfl (StepS.cmp rfl rfl rfl) ?_
                      refine TO.s rfl rfl rfl (StepS.pickT rfl hb175 rfl) ?_
                      exact TO.up1 3 0 rfl rfl (by rw [hb175]; rfl) rfl
                    · refine TO.skip rfl rfl rfl (skipF hb175) rfl rfl ?_
                      refine TO.skip rfl rfl rfl (skipF hb175) rfl rfl ?_
                      refine TO.s rfl rfl rfl (StepS.pickF rfl hb175 rfl) ?_
                      exact TO.up1 3 0 rfl rfl (by rw [hb175]; rfl) rfl
                  refine TO.code ?_
                  refine TC.cond rfl (fun hc176 => ?_) (fun hc176 => ?_)
                  · replace hj151 := cond_t hc176 hj151
                    refine TC.region ?_
                    refine TO.s rfl rfl rfl (StepS.assign rfl) ?_
                    cases hj151
                    refine TO.nil fun a w e s => ?_
                    exact ⟨v81, v84, v87, e.sub (lk_of_allIn ⟨rfl, rfl, rfl, rfl, rfl, rfl, rfl, rfl, rfl, rfl, rfl, rfl, trivial⟩), s.mono fun _ s => (by exact Sat.by [13, 13, 13, 13, 13, 13, 13, 13, 13, 13, 10, 13, 13, 13] 14 0 (by kernel_rfl) s)⟩
                  · replace hj151 := cond_f hc176 hj151
                    refine TC.k ?_
                    refine TC.region ?_
                    refine TO.s rfl rfl rfl (StepS.fld rfl kfieldB_106_0_0_true) ?_
                    refine TO.s rfl rfl rfl (StepS.ldB rfl (Ent.at 0 rfl) kscalB_3_true rfl) ?_
                    refine TO.s rfl rfl rfl (StepS.cmp rfl rfl rfl) ?_
                    refine TO.code ?_
                    refine TC.cond rfl (fun hc177 => ?_) (fun hc177 => ?_)
                    · replace hj151 := cond_t hc177 hj151
                      refine TC.k ?_
                      refine TC.region ?_
                      refine TO.s rfl rfl rfl (StepS.ldB rfl (Ent.at 5 rfl) kscalB_136_true rfl) ?_
                      refine TO.s rfl rfl rfl (StepS.move rfl) ?_
                      obtain ⟨x178, hx179, hj151⟩ := bind_some hj151
                      refine TO.s rfl rfl rfl (StepS.idx rfl rfl (OwnS.rd (Ent.at 1 rfl)) ksliceB_136_138_3_true (idx_spec hx179).1 (idxm_lt hx179)) ?_
                      refine TO.s rfl rfl rfl (StepS.ptrf rfl kfieldB_138_2_2_true) ?_
                      refine TO.s rfl rfl rfl (StepS.ld1 rfl (OwnS.rd (Ent.at 1 rfl)) kscalB_3_true rfl (idxm hx179) rfl) ?_
                      refine TO.s rfl rfl rfl (StepS.assign rfl) ?_
                      refine TO.code ?_
                      refine TC.k ?_
                      refine TC.region ?_
                      refine TO.s rfl rfl rfl (StepS.ldB rfl (Ent.at 5 rfl) kscalB_136_true rfl) ?_
                      refine TO.s rfl rfl rfl (StepS.move rfl) ?_
                      obtain ⟨r180, hc181, hj151⟩ := bind_some hj151
                      refine TO.callO kcallB_62_true rfl rfl rfl (fun _ st => C62 (OwnS.rd (Ent.at 1 rfl)) hc181 st) ?_
                      rintro v182 _ ⟨_, rfl, rfl⟩
                      refine TO.pure (fun _ s => Rd.one (OwnS.rd (Ent.at 0 rfl)) s) fun oc184 => ?_
                      refine TO.stB (us := [v182]) 6 [v182] rfl rfl rfl ksizeB_136_1_true oc184.2 rfl rfl (by intro u hu; simp only [List.mem_cons, List.not_mem_nil, or_false] at hu; rcases hu with rfl <;> first | exact oc184.1 | rfl) rfl ?_
                      refine TO.code ?_
                      refine TC.k ?_
                      refine TC.region ?_
                      refine TO.s rfl rfl rfl (StepS.move rfl) ?_
                      refine TO.s rfl rfl rfl (StepS.cmp rfl rfl rfl) ?_
                      refine TO.code ?_
                      refine TC.cond rfl (fun hc185 => ?_) (fun hc185 => ?_)
                      · replace hj151 := cond_t hc185 hj151
                        refine TC.k ?_
                        refine TC.region ?_
                        refine TO.s rfl rfl rfl (StepS.move rfl) ?_
                        refine TO.s rfl rfl rfl (StepS.fld rfl kfieldB_106_2_2_true) ?_
                        refine TO.s rfl rfl rfl (StepS.ldB rfl (Ent.at 1 rfl) kscalB_3_true rfl) ?_
                        refine TO.ghost (fun _ s => Sat.front 6 rfl s) ?_
                        refine TO.ghost (fun _ s => Sat.front 12 rfl s) ?_
                        refine TO.ghost (fun _ s => Sat.front 12 rfl s) ?_
                        refine TO.ghost (fun _ s => Sat.front 7 rfl s) ?_
                        refine TO.ghost (fun _ s => Sat.front 12 rfl s) ?_
                        refine TO.ghost (fun _ s => Sat.front 8 rfl s) ?_
                        refine TO.ghost (fun _ s => Sat.front 12 rfl s) ?_
                        obtain ⟨⟨r186, r187, r188, r189⟩, hc190, hj151⟩ := bind_some hj151
                        refine TO.callOC kcallB_60_true rfl rfl rfl rfl (fun _ st => C60 (a1 := y86) (a2 := y89) (a3 := y95) (a5 := r180) (Ent.at 6 rfl) hc190 st) ?_
                        rintro _ _ ⟨v191, v193, v196, rfl, rfl⟩
                        refine TO.code ?_
                        refine TC.region_tail 8 kfollows_mixedOrders_true (by kernel_rfl) ?_
                        refine TS.s rfl rfl rfl (StepS.move rfl) ?_
                        refine TS.s rfl rfl rfl (StepS.fld rfl kfieldB_106_1_1_true) ?_
                        refine TS.s rfl rfl rfl (StepS.ldB rfl (Ent.at 8 rfl) kscalB_3_true rfl) ?_
                        obtain ⟨x198, hx199, hj151⟩ := bind_some hj151
                        refine TS.s rfl rfl rfl (StepS.idxRR rfl rfl (SS.rr (Ent.at 12 rfl)) ksliceB_135_115_1_true hx199) ?_
                        refine TS.s rfl rfl rfl (StepS.ldRR rfl (SS.rr (Ent.at 12 rfl)) kscalB_115_true hx199) ?_
                        refine TS.s rfl rfl rfl (StepS.fld rfl kfieldB_106_2_2_true) ?_
                        refine TS.s rfl rfl rfl (StepS.ldB rfl (Ent.at 8 rfl) kscalB_3_true rfl) ?_
                        obtain ⟨x201, hx202, hj151⟩ := bind_some hj151
                        refine TS.s rfl rfl rfl (StepS.idx rfl rfl (RR.row (SS.rr (Ent.at 12 rfl)) hx199) ksliceB_115_4_1_true (idx_spec hx202).1 (idxm_lt hx202)) ?_
                        refine TS.nil ?_
                        refine TO.at ?_
                        refine TO.ghost (fun _ s => Sat.front 12 rfl s) ?_
                        refine TO.stEl (i := x132.2.1) (j := x132.2.2.1.toNat) (off := 0) (us := [.bool true]) true rfl rfl hx199 ksizeB_4_1_true rfl rfl rfl (idx_spec hx202).2 rfl (by simp [Value.oneCell']) rfl ?_
                        cases hj151
                        refine TO.nil fun a w e s => ?_
                        exact ⟨v196, v191, v193, e.sub (lk_of_allIn ⟨rfl, rfl, rfl, rfl, rfl, rfl, rfl, rfl, rfl, rfl, rfl, rfl, trivial⟩), s.mono fun _ s => (by exact Sat.by [14, 14, 8, 8, 7, 6, 6, 14, 10, 14, 13, 12, 12, 13] 14 1 (by kernel_rfl) s)⟩
                      · replace hj151 := cond_f hc185 hj151
                        refine TC.k ?_
                        refine TC.region_tail 11 kfollows_mixedOrders_true (by kernel_rfl) ?_
                        refine TS.s rfl rfl rfl (StepS.ldB rfl (Ent.at 10 rfl) kscalB_22_true rfl) ?_
                        refine TS.s rfl rfl rfl (StepS.fld rfl kfieldB_106_2_2_true) ?_
                        refine TS.s rfl rfl rfl (StepS.ldB rfl (Ent.at 1 rfl) kscalB_3_true rfl) ?_
                        refine TS.s rfl rfl rfl (StepS.ldB rfl (Ent.at 10 rfl) kscalB_22_true rfl) ?_
                        refine TS.s rfl rfl rfl (StepS.fld rfl kfieldB_106_2_2_true) ?_
                        refine TS.s rfl rfl rfl (StepS.ldB rfl (Ent.at 1 rfl) kscalB_3_true rfl) ?_
                        obtain ⟨x203, hx204, hj151⟩ := bind_some hj151
                        refine TS.s rfl rfl rfl (StepS.idx rfl rfl (OwnS.rd (Ent.at 4 rfl)) ksliceB_22_3_1_true (idx_spec hx204).1 (idxm_lt hx204)) ?_
                        refine TS.s rfl rfl rfl (StepS.ld0 rfl (OwnS.rd (Ent.at 4 rfl)) kscalB_3_true rfl (idxm hx204) rfl) ?_
                        refine TS.s rfl rfl rfl (StepS.move rfl) ?_
                        refine TS.s rfl rfl rfl (StepS.ari rfl rfl rfl) ?_
                        obtain ⟨x205, hx206, hj151⟩ := bind_some hj151
                        refine TS.s rfl rfl rfl (StepS.idx rfl rfl (OwnS.rd (Ent.at 4 rfl)) ksliceB_22_3_1_true (idx_spec hx206).1 (idxm_lt hx206)) ?_
                        refine TS.nil ?_
                        refine TO.at ?_
                        refine TO.stO (i := x132.2.2.1.toNat) (off := 0) (us := [I (w64 (x203 + x178.2.2))]) 4 (w64 (x203 + x178.2.2)) rfl rfl rfl ksizeB_3_1_true rfl rfl rfl (idx_spec hx206).2 rfl (by simp [Value.oneCell']) rfl ?_
                        refine TO.code ?_
                        refine TC.k ?_
                        refine TC.region_still kfollows_mixedOrders_true (by kernel_rfl) ?_
                        refine TS.s rfl rfl rfl (StepS.ldB rfl (Ent.at 9 rfl) kscalB_115_true rfl) ?_
                        refine TS.s rfl rfl rfl (StepS.fld rfl kfieldB_106_2_2_true) ?_
                        refine TS.s rfl rfl rfl (StepS.ldB rfl (Ent.at 1 rfl) kscalB_3_true rfl) ?_
                        obtain ⟨x207, hx208, hj151⟩ := bind_some hj151
                        refine TS.s rfl rfl rfl (StepS.idx rfl rfl (OwnS.rd (Ent.at 3 rfl)) ksliceB_115_4_1_true (idx_spec hx208).1 (idxm_lt hx208)) ?_
                        refine TS.s rfl rfl rfl (StepS.ld0 rfl (OwnS.rd (Ent.at 3 rfl)) kscalB_4_true rfl (idxm hx208) rfl) ?_
                        refine TS.s rfl rfl rfl (StepS.move rfl) ?_
                        obtain ⟨b210, hj211, hj151⟩ := bind_some hj151
                        refine TS.mid1 11 152 (.bool b210) ?_ ?_
                        · refine bcase (x207) (fun hb209 => ?_) (fun hb209 => ?_)
                          · replace hj211 := cond_t hb209 hj211
                            refine TS.sw rfl rfl rfl hb209 rfl rfl (StepS.move rfl) ?_
                            refine TS.sw rfl rfl rfl hb209 rfl rfl (StepS.fld rfl kfieldB_106_1_1_true) ?_
                            refine TS.sw rfl rfl rfl hb209 rfl rfl (StepS.ldB rfl (Ent.at 1 rfl) kscalB_3_true rfl) ?_
                            obtain ⟨x212, hx213, hj211⟩ := bind_some hj211
                            refine TS.sw rfl rfl rfl hb209 rfl rfl (StepS.idxRR rfl rfl (SS.rr (Ent.at 8 rfl)) ksliceB_135_115_1_true hx213) ?_
                            refine TS.sw rfl rfl rfl hb209 rfl rfl (StepS.ldRR rfl (SS.rr (Ent.at 8 rfl)) kscalB_115_true hx213) ?_
                            refine TS.sw rfl rfl rfl hb209 rfl rfl (StepS.fld rfl kfieldB_106_2_2_true) ?_
                            refine TS.sw rfl rfl rfl hb209 rfl rfl (StepS.ldB rfl (Ent.at 1 rfl) kscalB_3_true rfl) ?_
                            obtain ⟨x215, hx216, hj211⟩ := bind_some hj211
                            refine TS.sw rfl rfl rfl hb209 rfl rfl (StepS.idx rfl rfl (RR.row (SS.rr (Ent.at 8 rfl)) hx213) ksliceB_115_4_1_true (idx_spec hx216).1 (idxm_lt hx216)) ?_
                            refine TS.sw rfl rfl rfl hb209 rfl rfl (StepS.ld0 rfl (RR.row (SS.rr (Ent.at 8 rfl)) hx213) kscalB_4_true rfl (idxm hx216) rfl) ?_
                            refine TS.sw rfl rfl rfl hb209 rfl rfl (StepS.not rfl) ?_
                            cases hj211
                            refine TS.s rfl rfl rfl (StepS.pickT rfl hb209 rfl) ?_
                            exact TS.up1 11 0 rfl rfl rfl rfl
                          · replace hj211 := cond_f hb209 hj211
                            cases hj211
                            refine TS.skip rfl rfl rfl (skipF hb209) rfl rfl ?_
                            refine TS.skip rfl rfl rfl (skipF hb209) rfl rfl ?_
                            refine TS.skip rfl rfl rfl (skipF hb209) rfl rfl ?_
                            refine TS.skip rfl rfl rfl (skipF hb209) rfl rfl ?_
                            refine TS.skip rfl rfl rfl (skipF hb209) rfl rfl ?_
                            refine TS.skip rfl rfl rfl (skipF hb209) rfl rfl ?_
                            refine TS.skip rfl rfl rfl (skipF hb209) rfl rfl ?_
                            refine TS.skip rfl rfl rfl (skipF hb209) rfl rfl ?_
                            refine TS.skip rfl rfl rfl (skipF hb209) rfl rfl ?_
                            refine TS.skip rfl rfl rfl (skipF hb209) rfl rfl ?_
                            refine TS.s rfl rfl rfl (StepS.pickF rfl hb209 rfl) ?_
                            exact TS.up1 11 0 rfl rfl rfl rfl
                        refine TS.code ?_
                        refine TC.cond rfl (fun hc217 => ?_) (fun hc217 => ?_)
                        · replace hj151 := cond_t hc217 hj151
                          refine TC.region_tail 21 kfollows_mixedOrders_true (by kernel_rfl) ?_
                          refine TS.s rfl rfl rfl (StepS.fld rfl kfieldB_52_3_3_true) ?_
                          refine TS.s rfl rfl rfl (StepS.ldB rfl (Ent.at 11 rfl) kscalB_50_true rfl) ?_
                          refine TS.s rfl rfl rfl (StepS.fld rfl kfieldB_106_1_1_true) ?_
                          refine TS.s rfl rfl rfl (StepS.ldB rfl (Ent.at 1 rfl) kscalB_3_true rfl) ?_
                          obtain ⟨x218, hx219, hj151⟩ := bind_some hj151
                          refine TS.s rfl rfl rfl (StepS.idxRR rfl rfl (SS.rr (Ent.at 7 rfl)) ksliceB_50_22_1_true hx219) ?_
                          refine TS.s rfl rfl rfl (StepS.ldRR rfl (SS.rr (Ent.at 7 rfl)) kscalB_22_true hx219) ?_
                          refine TS.s rfl rfl rfl (StepS.fld rfl kfieldB_106_2_2_true) ?_
                          refine TS.s rfl rfl rfl (StepS.ldB rfl (Ent.at 1 rfl) kscalB_3_true rfl) ?_
                          refine TS.s rfl rfl rfl (StepS.fld rfl kfieldB_52_3_3_true) ?_
                          refine TS.s rfl rfl rfl (StepS.ldB rfl (Ent.at 11 rfl) kscalB_50_true rfl) ?_
                          refine TS.s rfl rfl rfl (StepS.fld rfl kfieldB_106_1_1_true) ?_
                          refine TS.s rfl rfl rfl (StepS.ldB rfl (Ent.at 1 rfl) kscalB_3_true rfl) ?_
                          obtain ⟨x221, hx222, hj151⟩ := bind_some hj151
                          refine TS.s rfl rfl rfl (StepS.idxRR rfl rfl (SS.rr (Ent.at 7 rfl)) ksliceB_50_22_1_true hx222) ?_
                          refine TS.s rfl rfl rfl (StepS.ldRR rfl (SS.rr (Ent.at 7 rfl)) kscalB_22_true hx222) ?_
                          refine TS.s rfl rfl rfl (StepS.fld rfl kfieldB_106_2_2_true) ?_
                          refine TS.s rfl rfl rfl (StepS.ldB rfl (Ent.at 1 rfl) kscalB_3_true rfl) ?_
                          obtain ⟨x224, hx225, hj151⟩ := bind_some hj151
                          refine TS.s rfl rfl rfl (StepS.idx rfl rfl (RR.row (SS.rr (Ent.at 7 rfl)) hx222) ksliceB_22_3_1_true (idx_spec hx225).1 (idxm_lt hx225)) ?_
                          refine TS.s rfl rfl rfl (StepS.ld0 rfl (RR.row (SS.rr (Ent.at 7 rfl)) hx222) kscalB_3_true rfl (idxm hx225) rfl) ?_
                          refine TS.s rfl rfl rfl (StepS.move rfl) ?_
                          refine TS.s rfl rfl rfl (StepS.ari rfl rfl rfl) ?_
                          obtain ⟨x226, hx227, hj151⟩ := bind_some hj151
                          refine TS.s rfl rfl rfl (StepS.idx rfl rfl (RR.row (SS.rr (Ent.at 7 rfl)) hx219) ksliceB_22_3_1_true (idx_spec hx227).1 (idxm_lt hx227)) ?_
                          refine TS.nil ?_
                          refine TO.at ?_
                          refine TO.ghost (fun _ s => Sat.front 7 rfl s) ?_
                          refine TO.stEl (i := x132.2.1) (j := x132.2.2.1.toNat) (off := 0) (us := [I (w64 (x224 + x178.2.2))]) (w64 (x224 + x178.2.2)) rfl rfl hx219 ksizeB_3_1_true rfl rfl rfl (idx_spec hx227).2 rfl (by simp [Value.oneCell']) rfl ?_
                          cases hj151
                          refine TO.nil fun a w e s => ?_
                          exact ⟨v182, v84, v87, e.sub (lk_of_allIn ⟨rfl, rfl, rfl, rfl, rfl, rfl, rfl, rfl, rfl, rfl, rfl, rfl, trivial⟩), s.mono fun _ s => (by exact Sat.by [14, 14, 14, 14, 14, 14, 14, 7, 14, 14, 11, 14, 14, 13] 14 1 (by kernel_rfl) s)⟩
                        · replace hj151 := cond_f hc217 hj151
                          cases hj151
                          refine TC.skip fun a w e s => ?_
                          exact ⟨v182, v84, v87, e.sub (lk_of_allIn ⟨rfl, rfl, rfl, rfl, rfl, rfl, rfl, rfl, rfl, rfl, rfl, rfl, trivial⟩), s.mono fun _ s => (by exact Sat.by [14, 14, 14, 14, 14, 14, 14, 14, 14, 14, 11, 14, 14, 13] 14 1 (by kernel_rfl) s)⟩
                    · replace hj151 := cond_f hc177 hj151
                      refine TC.k ?_
                      refine TC.region_still kfollows_mixedOrders_true (by kernel_rfl) ?_
                      refine TS.s rfl rfl rfl (StepS.fld rfl kfieldB_106_3_3_true) ?_
                      refine TS.s rfl rfl rfl (StepS.ldB rfl (Ent.at 0 rfl) kscalB_3_true rfl) ?_
                      refine TS.s rfl rfl rfl (StepS.cmp rfl rfl rfl) ?_
                      refine TS.s rfl rfl rfl (StepS.move rfl) ?_
                      obtain ⟨b229, hj230, hj151⟩ := bind_some hj151
                      refine TS.mid1 9 186 (.bool b229) ?_ ?_
                      · refine bcase ((decide (x132.2.2.2 < 1))) (fun hb228 => ?_) (fun hb228 => ?_)
                        · replace hj230 := cond_t hb228 hj230
                          cases hj230
                          refine TS.skip rfl rfl rfl (skipT hb228) rfl rfl ?_
                          refine TS.skip rfl rfl rfl (skipT hb228) rfl rfl ?_
                          refine TS.skip rfl rfl rfl (skipT hb228) rfl rfl ?_
                          refine TS.skip rfl rfl rfl (skipT hb228) rfl rfl ?_
                          refine TS.skip rfl rfl rfl (skipT hb228) rfl rfl ?_
                          refine TS.skip rfl rfl rfl (skipT hb228) rfl rfl ?_
                          refine TS.skip rfl rfl rfl (skipT hb228) rfl rfl ?_
                          refine TS.skip rfl rfl rfl (skipT hb228) rfl rfl ?_
                          refine TS.s rfl rfl rfl (StepS.pickT rfl hb228 rfl) ?_
                          exact TS.up1 9 0 rfl rfl rfl rfl
                        · replace hj230 := cond_f hb228 hj230
                          refine TS.sw rfl rfl rfl hb228 rfl rfl (StepS.fld rfl kfieldB_106_3_3_true) ?_
                          refine TS.sw rfl rfl rfl hb228 rfl rfl (StepS.ldB rfl (Ent.at 0 rfl) kscalB_3_true rfl) ?_
                          refine TS.sw rfl rfl rfl hb228 rfl rfl (StepS.ldB rfl (Ent.at 9 rfl) kscalB_22_true rfl) ?_
                          refine TS.sw rfl rfl rfl hb228 rfl rfl (StepS.fld rfl kfieldB_106_1_1_true) ?_
                          refine TS.sw rfl rfl rfl hb228 rfl rfl (StepS.ldB rfl (Ent.at 0 rfl) kscalB_3_true rfl) ?_
                          obtain ⟨x231, hx232, hj230⟩ := bind_some hj230
                          refine TS.sw rfl rfl rfl hb228 rfl rfl (StepS.idx rfl rfl (OwnS.rd (Ent.at 3 rfl)) ksliceB_22_3_1_true (idx_spec hx232).1 (idxm_lt hx232)) ?_
                          refine TS.sw rfl rfl rfl hb228 rfl rfl (StepS.ld0 rfl (OwnS.rd (Ent.at 3 rfl)) kscalB_3_true rfl (idxm hx232) rfl) ?_
                          refine TS.sw rfl rfl rfl hb228 rfl rfl (StepS.cmp rfl rfl rfl) ?_
                          cases hj230
                          refine TS.s rfl rfl rfl (StepS.pickF rfl hb228 rfl) ?_
                          exact TS.up1 9 0 rfl rfl rfl rfl
                      refine TS.code ?_
                      refine TC.cond rfl (fun hc233 => ?_) (fun hc233 => ?_)
                      · replace hj151 := cond_t hc233 hj151
                        refine TC.region ?_
                        refine TO.s rfl rfl rfl (StepS.assign rfl) ?_
                        cases hj151
                        refine TO.nil fun a w e s => ?_
                        exact ⟨v81, v84, v87, e.sub (lk_of_allIn ⟨rfl, rfl, rfl, rfl, rfl, rfl, rfl, rfl, rfl, rfl, rfl, rfl, trivial⟩), s.mono fun _ s => (by exact Sat.by [13, 13, 13, 13, 13, 13, 13, 13, 13, 13, 10, 13, 13, 13] 14 0 (by kernel_rfl) s)⟩
                      · replace hj151 := cond_f hc233 hj151
                        refine TC.k ?_
                        refine TC.region_tail 12 kfollows_mixedOrders_true (by kernel_rfl) ?_
                        refine TS.s rfl rfl rfl (StepS.ldB rfl (Ent.at 9 rfl) kscalB_22_true rfl) ?_
                        refine TS.s rfl rfl rfl (StepS.fld rfl kfieldB_106_1_1_true) ?_
                        refine TS.s rfl rfl rfl (StepS.ldB rfl (Ent.at 0 rfl) kscalB_3_true rfl) ?_
                        refine TS.s rfl rfl rfl (StepS.ldB rfl (Ent.at 9 rfl) kscalB_22_true rfl) ?_
                        refine TS.s rfl rfl rfl (StepS.fld rfl kfieldB_106_1_1_true) ?_
                        refine TS.s rfl rfl rfl (StepS.ldB rfl (Ent.at 0 rfl) kscalB_3_true rfl) ?_
                        obtain ⟨x234, hx235, hj151⟩ := bind_some hj151
                        refine TS.s rfl rfl rfl (StepS.idx rfl rfl (OwnS.rd (Ent.at 3 rfl)) ksliceB_22_3_1_true (idx_spec hx235).1 (idxm_lt hx235)) ?_
                        refine TS.s rfl rfl rfl (StepS.ld0 rfl (OwnS.rd (Ent.at 3 rfl)) kscalB_3_true rfl (idxm hx235) rfl) ?_
                        refine TS.s rfl rfl rfl (StepS.fld rfl kfieldB_106_3_3_true) ?_
                        refine TS.s rfl rfl rfl (StepS.ldB rfl (Ent.at 0 rfl) kscalB_3_true rfl) ?_
                        refine TS.s rfl rfl rfl (StepS.ari rfl rfl rfl) ?_
                        obtain ⟨x236, hx237, hj151⟩ := bind_some hj151
                        refine TS.s rfl rfl rfl (StepS.idx rfl rfl (OwnS.rd (Ent.at 3 rfl)) ksliceB_22_3_1_true (idx_spec hx237).1 (idxm_lt hx237)) ?_
                        refine TS.nil ?_
                        refine TO.at ?_
                        refine TO.stO (i := x132.2.1.toNat) (off := 0) (us := [I (w64 (x234 - x132.2.2.2))]) 3 (w64 (x234 - x132.2.2.2)) rfl rfl rfl ksizeB_3_1_true rfl rfl rfl (idx_spec hx237).2 rfl (by simp [Value.oneCell']) rfl ?_
                        refine TO.code ?_
                        refine TC.region ?_
                        refine TO.s rfl rfl rfl (StepS.ldB rfl (Ent.at 5 rfl) kscalB_136_true rfl) ?_
                        refine TO.s rfl rfl rfl (StepS.fld rfl kfieldB_106_1_1_true) ?_
                        refine TO.s rfl rfl rfl (StepS.ldB rfl (Ent.at 0 rfl) kscalB_3_true rfl) ?_
                        refine TO.s rfl rfl rfl (StepS.fld rfl kfieldB_106_2_2_true) ?_
                        refine TO.s rfl rfl rfl (StepS.ldB rfl (Ent.at 0 rfl) kscalB_3_true rfl) ?_
                        refine TO.s rfl rfl rfl (StepS.fld rfl kfieldB_106_3_3_true) ?_
                        refine TO.s rfl rfl rfl (StepS.ldB rfl (Ent.at 0 rfl) kscalB_3_true rfl) ?_
                        refine TO.s rfl rfl rfl (StepS.build (cs := [I x132.2.1, I x132.2.2.1, I x132.2.2.2]) rfl (by kernel_rfl)) ?_
                        refine TO.litS (f := cTiii) ([(x132.2.1, x132.2.2.1, x132.2.2.2)] : List (Int × Int × Int)) kelemB_136_138_3_24_true kinfo_138_bind_zero_some_agg_I_0_I_0_I_0 rfl rfl (fun _ => rfl) rfl rfl (by kernel_rfl) rfl fun v238 => ?_
                        obtain ⟨y240, hk241, hj151⟩ := bind_some hj151
                        refine TO.app (k := 2) (f := cTiii) kelemB_136_138_3_24_true (by decide) rfl rfl rfl (OwnS.rd (Ent.at 0 rfl)) hk241 (fun x c hc => by simp [Value.oneCell'] at hc ⊢; first | (obtain rfl := hc; rfl) | (rcases hc with rfl | rfl | rfl <;> rfl)) rfl rfl fun v242 => ?_
                        refine TO.pure (fun _ s => Rd.one (OwnS.rd (Ent.at 2 rfl)) s) fun oc243 => ?_
                        refine TO.stB (us := [v242]) 6 [v242] rfl rfl rfl ksizeB_136_1_true oc243.2 rfl rfl (by intro u hu; simp only [List.mem_cons, List.not_mem_nil, or_false] at hu; rcases hu with rfl <;> first | exact oc243.1 | rfl) rfl ?_
                        cases hj151
                        refine TO.nil fun a w e s => ?_
                        exact ⟨v242, v84, v87, e.sub (lk_of_allIn ⟨rfl, rfl, rfl, rfl, rfl, rfl, rfl, rfl, rfl, rfl, rfl, rfl, trivial⟩), s.mono fun _ s => (by exact Sat.by [14, 14, 14, 14, 14, 14, 14, 14, 14, 14, 11, 14, 14, 14] 14 1 (by kernel_rfl) s)⟩
        · intro a w ⟨v138, v141, v144, he, hs⟩
          refine TC.use ?_ he hs
          refine TC.region ?_
          refine TO.s rfl rfl rfl (StepS.fld rfl kfieldB_52_0_0_true) ?_
          refine TO.s rfl rfl rfl (StepS.ldB rfl (Ent.at 10 rfl) kscalB_24_true rfl) ?_
          refine TO.s rfl rfl rfl (StepS.move rfl) ?_
          refine TO.litS (f := cI) ([x150] : List Int) kelemB_24_28_1_8_true kinfo_28_bind_zero_some_I_0 rfl rfl (fun _ => rfl) rfl rfl (by kernel_rfl) rfl fun v244 => ?_
          obtain ⟨y246, hk247, hb130⟩ := bind_some hb130
          refine TO.app (k := 5) (f := cI) kelemB_24_28_1_8_true (by decide) rfl rfl rfl (OwnS.rd (Ent.at 0 rfl)) hk247 (fun x c hc => by simp [Value.oneCell'] at hc ⊢; first | (obtain rfl := hc; rfl) | (rcases hc with rfl <;> rfl)) rfl rfl fun v248 => ?_
          refine TO.s rfl rfl rfl (StepS.fld rfl kfieldB_52_0_0_true) ?_
          refine TO.pure (fun _ s => Rd.one (OwnS.rd (Ent.at 5 rfl)) s) fun oc249 => ?_
          refine TO.stB (us := [v248]) 11 [v248, .bool false, v8, v46] rfl rfl rfl ksizeB_24_1_true oc249.2 rfl rfl (by intro u hu; simp only [List.mem_cons, List.not_mem_nil, or_false] at hu; rcases hu with rfl <;> first | exact oc249.1 | rfl) rfl ?_
          refine TO.code ?_
          refine TC.region ?_
          refine TO.s rfl rfl rfl (StepS.ari rfl rfl rfl) ?_
          refine TO.s rfl rfl rfl (StepS.move rfl) ?_
          cases hb130
          refine TO.nil fun a w e s => ?_
          exact ⟨v138, v141, v144, v248, e.sub (lk_of_allIn ⟨rfl, rfl, rfl, rfl, rfl, rfl, rfl, rfl, rfl, rfl, rfl, trivial⟩), s.mono fun _ s => (by exact Sat.by [14, 14, 14, 14, 14, 14, 14, 14, 14, 14, 13, 13, 13] 13 2 (by kernel_rfl) s)⟩
      · replace hb130 := cond_f hc131 hb130
        cases hb130
        refine TC.exit rfl fun a w e s => ?_
        exact ⟨v81, v84, v87, v90, e.sub (lk_of_allIn ⟨rfl, rfl, rfl, rfl, rfl, trivial⟩), s⟩
    · exact fun a w e s => ⟨.slice none 0 0, v21, v15, .slice none 0 0, e.sub (lk_of_allIn ⟨rfl, rfl, rfl, rfl, rfl, rfl, rfl, rfl, rfl, rfl, rfl, trivial⟩), s.mono fun _ s => (by replace s := Sat.nilS (e := 28) (sz := 1) (f := cI) s; replace s := Sat.nilS (e := 138) (sz := 3) (f := cTiii) s; exact Sat.by [12, 12, 12, 12, 11, 10, 10, 10, 10, 10, 12, 12, 12] 13 0 (by kernel_rfl) s)⟩
    · rintro ⟨y115, y118, y121, y124, y125, y126, y127⟩ rfl a w ⟨v113, v116, v119, v122, he, hs⟩
      dsimp only [Ctl.on] at hm
      refine TC.use ?_ he hs
      refine TC.k ?_
      refine TC.region ?_
      refine TO.s rfl rfl rfl (StepS.fld rfl kfieldB_52_1_1_true) ?_
      refine TO.stB (us := [.bool true]) 9 [v122, .bool true, v8, v46] rfl rfl rfl ksizeB_4_1_true rfl rfl rfl (by simp [Value.oneCell']) rfl ?_
      refine TO.code ?_
      refine TC.k ?_
      refine TC.k ?_
      refine TC.region ?_
      refine TO.s rfl rfl rfl (StepS.assign rfl) ?_
      refine TO.code ?_
      obtain ⟨o255, hw256, hm⟩ := bind_some hm
      refine TC.loop hw256 (fun (b250, x251) => fun a w => Mid 251 B [(2, .pointer (some ⟨b4, 0, none⟩)), (4, .pointer (some ⟨b5, 0, none⟩)), (5, .pointer (some ⟨b11, 0, none⟩)), (7, .pointer (some ⟨b23, 0, none⟩)), (8, v27), (17, I x251)] (OwnS 138 3 v113 (y115.map cTiii) :: OwnS 4 1 v116 (y118.map cB) :: OwnS 3 1 v119 (y121.map cI) :: OwnS 28 1 v122 (y124.map cI) :: Bx b66 136 [v113] :: SS 22 3 1 cI v46 hs47 (y125) :: SS 115 4 1 cB v27 hs51 (y126) :: Bx b23 115 [v116] :: Bx b17 22 [v119] :: Bx b11 52 [v122, .bool b250, v8, v46] :: OwnS 3 1 v8 (y127.map cI) :: Bx b5 52 [.slice none 0 0, .bool false, .slice none 0 0, .slice none 0 0] :: Bx b4 3 [I a0] :: L) a w) (fun b254 => fun a w => Mid 251 B [(4, .pointer (some ⟨b5, 0, none⟩)), (5, .pointer (some ⟨b11, 0, none⟩))] (OwnS 138 3 v113 (y115.map cTiii) :: OwnS 4 1 v116 (y118.map cB) :: OwnS 3 1 v119 (y121.map cI) :: OwnS 28 1 v122 (y124.map cI) :: Bx b66 136 [v113] :: SS 22 3 1 cI v46 hs47 (y125) :: SS 115 4 1 cB v27 hs51 (y126) :: Bx b23 115 [v116] :: Bx b17 22 [v119] :: Bx b11 52 [v122, .bool b254, v8, v46] :: OwnS 3 1 v8 (y127.map cI) :: Bx b5 52 [.slice none 0 0, .bool false, .slice none 0 0, .slice none 0 0] :: Bx b4 3 [I a0] :: L) a w) (fun (_ : Unit) _ _ => False) ?_ ?_ ?_ ?_
      · rintro ⟨b250, x251⟩ o255r hb257 a w ⟨he, hs⟩
        dsimp only [F27_L2] at hb257
        refine TC.use ?_ he hs
        refine TC.k ?_
        refine TC.k ?_
        refine TC.region ?_
        refine TO.s rfl rfl rfl (StepS.move rfl) ?_
        refine TO.s rfl rfl rfl (StepS.ldB rfl (Ent.at 12 rfl) kscalB_3_true rfl) ?_
        refine TO.s rfl rfl rfl (StepS.cmp rfl rfl rfl) ?_
        refine TO.code ?_
        refine TC.cond rfl (fun hc258 => ?_) (fun hc258 => ?_)
        · replace hb257 := cond_t hc258 hb257
          refine TC.skipk ?_
          refine TC.k ?_
          refine TC.block ?_
          refine TC.k ?_
          refine TC.region ?_
          refine TO.s rfl rfl rfl (StepS.assign rfl) ?_
          refine TO.code ?_
          obtain ⟨o264, hw265, hb257⟩ := bind_some hb257
          refine TC.loop hw265 (fun (b259, x260) => fun a w => Mid 251 B [(2, .pointer (some ⟨b4, 0, none⟩)), (4, .pointer (some ⟨b5, 0, none⟩)), (5, .pointer (some ⟨b11, 0, none⟩)), (7, .pointer (some ⟨b23, 0, none⟩)), (8, v27), (17, I x251), (18, I x260)] (OwnS 138 3 v113 (y115.map cTiii) :: OwnS 4 1 v116 (y118.map cB) :: OwnS 3 1 v119 (y121.map cI) :: OwnS 28 1 v122 (y124.map cI) :: Bx b66 136 [v113] :: SS 22 3 1 cI v46 hs47 (y125) :: SS 115 4 1 cB v27 hs51 (y126) :: Bx b23 115 [v116] :: Bx b17 22 [v119] :: Bx b11 52 [v122, .bool b259, v8, v46] :: OwnS 3 1 v8 (y127.map cI) :: Bx b5 52 [.slice none 0 0, .bool false, .slice none 0 0, .slice none 0 0] :: Bx b4 3 [I a0] :: L) a w) (fun b263 => fun a w => Mid 251 B [(2, .pointer (some ⟨b4, 0, none⟩)), (4, .pointer (some ⟨b5, 0, none⟩)), (5, .pointer (some ⟨b11, 0, none⟩)), (7, .pointer (some ⟨b23, 0, none⟩)), (8, v27), (17, I x251)] (OwnS 138 3 v113 (y115.map cTiii) :: OwnS 4 1 v116 (y118.map cB) :: OwnS 3 1 v119 (y121.map cI) :: OwnS 28 1 v122 (y124.map cI) :: Bx b66 136 [v113] :: SS 22 3 1 cI v46 hs47 (y125) :: SS 115 4 1 cB v27 hs51 (y126) :: Bx b23 115 [v116] :: Bx b17 22 [v119] :: Bx b11 52 [v122, .bool b263, v8, v46] :: OwnS 3 1 v8 (y127.map cI) :: Bx b5 52 [.slice none 0 0, .bool false, .slice none 0 0, .slice none 0 0] :: Bx b4 3 [I a0] :: L) a w) (fun (_ : Unit) _ _ => False) ?_ ?_ ?_ ?_
          · rintro ⟨b259, x260⟩ o264r hb266 a w ⟨he, hs⟩
            dsimp only [F27_L3] at hb266
            refine TC.use ?_ he hs
            refine TC.k ?_
            refine TC.k ?_
            refine TC.region ?_
            refine TO.s rfl rfl rfl (StepS.move rfl) ?_
            refine TO.s rfl rfl rfl (StepS.ldB rfl (Ent.at 12 rfl) kscalB_3_true rfl) ?_
            refine TO.s rfl rfl rfl (StepS.cmp rfl rfl rfl) ?_
            refine TO.code ?_
            refine TC.cond rfl (fun hc267 => ?_) (fun hc267 => ?_)
            · replace hb266 := cond_t hc267 hb266
              refine TC.skipk ?_
              refine TC.k ?_
              refine TC.block ?_
              refine TC.region ?_
              refine TO.s rfl rfl rfl (StepS.fld rfl kfieldB_52_1_1_true) ?_
              refine TO.s rfl rfl rfl (StepS.ldB rfl (Ent.at 9 rfl) kscalB_4_true rfl) ?_
              refine TO.s rfl rfl rfl (StepS.move rfl) ?_
              obtain ⟨b269, hj270, hb266⟩ := bind_some hb266
              refine TO.mid1 5 234 (.bool b269) ?_ ?_
              · refine bcase (b259) (fun hb268 => ?_) (fun hb268 => ?_)
                · replace hj270 := cond_t hb268 hj270
                  refine TO.sw rfl rfl rfl hb268 rfl rfl (StepS.ldB rfl (Ent.at 7 rfl) kscalB_115_true rfl) ?_
                  refine TO.sw rfl rfl rfl hb268 rfl rfl (StepS.move rfl) ?_
                  obtain ⟨x271, hx272, hj270⟩ := bind_some hj270
                  refine TO.sw rfl rfl rfl hb268 rfl rfl (StepS.idx rfl rfl (OwnS.rd (Ent.at 1 rfl)) ksliceB_115_4_1_true (idx_spec hx272).1 (idxm_lt hx272)) ?_
                  refine TO.sw rfl rfl rfl hb268 rfl rfl (StepS.ld0 rfl (OwnS.rd (Ent.at 1 rfl)) kscalB_4_true rfl (idxm hx272) rfl) ?_
                  cases hj270
                  refine TO.s rfl rfl rfl (StepS.pickT rfl hb268 rfl) ?_
                  exact TO.up1 5 0 rfl rfl rfl rfl
                · replace hj270 := cond_f hb268 hj270
                  cases hj270
                  refine TO.skip rfl rfl rfl (skipF hb268) rfl rfl ?_
                  refine TO.skip rfl rfl rfl (skipF hb268) rfl rfl ?_
                  refine TO.skip rfl rfl rfl (skipF hb268) rfl rfl ?_
                  refine TO.skip rfl rfl rfl (skipF hb268) rfl rfl ?_
                  refine TO.s rfl rfl rfl (StepS.pickF rfl hb268 rfl) ?_
                  exact TO.up1 5 0 rfl rfl rfl rfl
              refine TO.s rfl rfl rfl (StepS.move rfl) ?_
              obtain ⟨b274, hj275, hb266⟩ := bind_some hb266
              refine TO.mid1 13 248 (.bool b274) ?_ ?_
              · refine bcase (b269) (fun hb273 => ?_) (fun hb273 => ?_)
                · replace hj275 := cond_t hb273 hj275
                  refine TO.sw rfl rfl rfl hb273 rfl rfl (StepS.move rfl) ?_
                  refine TO.sw rfl rfl rfl hb273 rfl rfl (StepS.move rfl) ?_
                  refine TO.sw rfl rfl rfl hb273 rfl rfl (StepS.cmp rfl rfl rfl) ?_
                  refine TO.sw rfl rfl rfl hb273 rfl rfl (StepS.move rfl) ?_
                  obtain ⟨b277, hj278, hj275⟩ := bind_some hj275
                  refine TO.mid1 8 247 (.bool b277) ?_ ?_
                  · refine bcase ((x251 == x260)) (fun hb276 => ?_) (fun hb276 => ?_)
                    · replace hj278 := cond_t hb276 hj278
                      cases hj278
                      refine TO.skip rfl rfl rfl (skipT hb276) rfl rfl ?_
                      refine TO.skip rfl rfl rfl (skipT hb276) rfl rfl ?_
                      refine TO.skip rfl rfl rfl (skipT hb276) rfl rfl ?_
                      refine TO.skip rfl rfl rfl (skipT hb276) rfl rfl ?_
                      refine TO.skip rfl rfl rfl (skipT hb276) rfl rfl ?_
                      refine TO.skip rfl rfl rfl (skipT hb276) rfl rfl ?_
                      refine TO.skip rfl rfl rfl (skipT hb276) rfl rfl ?_
                      refine TO.sw rfl rfl rfl hb273 rfl rfl (StepS.pickT rfl hb276 rfl) ?_
                      exact TO.up1 8 0 rfl rfl rfl rfl
                    · replace hj278 := cond_f hb276 hj278
                      refine TO.sw rfl rfl rfl hb276 rfl rfl (StepS.move rfl) ?_
                      refine TO.sw rfl rfl rfl hb276 rfl rfl (StepS.move rfl) ?_
                      obtain ⟨x279, hx280, hj278⟩ := bind_some hj278
                      refine TO.sw rfl rfl rfl hb276 rfl rfl (StepS.idxRR rfl rfl (SS.rr (Ent.at 6 rfl)) ksliceB_135_115_1_true hx280) ?_
                      refine TO.sw rfl rfl rfl hb276 rfl rfl (StepS.ldRR rfl (SS.rr (Ent.at 6 rfl)) kscalB_115_true hx280) ?_
                      refine TO.sw rfl rfl rfl hb276 rfl rfl (StepS.move rfl) ?_
                      obtain ⟨x282, hx283, hj278⟩ := bind_some hj278
                      refine TO.sw rfl rfl rfl hb276 rfl rfl (StepS.idx rfl rfl (RR.row (SS.rr (Ent.at 6 rfl)) hx280) ksliceB_115_4_1_true (idx_spec hx283).1 (idxm_lt hx283)) ?_
                      refine TO.sw rfl rfl rfl hb276 rfl rfl (StepS.ld0 rfl (RR.row (SS.rr (Ent.at 6 rfl)) hx280) kscalB_4_true rfl (idxm hx283) rfl) ?_
                      cases hj278
                      refine TO.sw rfl rfl rfl hb273 rfl rfl (StepS.pickF rfl hb276 rfl) ?_
                      exact TO.up1 8 0 rfl rfl rfl rfl
                  cases hj275
                  refine TO.s rfl rfl rfl (StepS.pickT rfl hb273 rfl) ?_
                  exact TO.up1 6 0 rfl rfl rfl rfl
                · replace hj275 := cond_f hb273 hj275
                  cases hj275
                  refine TO.skip rfl rfl rfl (skipF hb273) rfl rfl ?_
                  refine TO.skip rfl rfl rfl (skipF hb273) rfl rfl ?_
                  refine TO.skip rfl rfl rfl (skipF hb273) rfl rfl ?_
                  refine TO.skip rfl rfl rfl (skipF hb273) rfl rfl ?_
                  refine TO.skip rfl rfl rfl skipU rfl rfl ?_
                  refine TO.skip rfl rfl rfl skipU rfl rfl ?_
                  refine TO.skip rfl rfl rfl skipU rfl rfl ?_
                  refine TO.skip rfl rfl rfl skipU rfl rfl ?_
                  refine TO.skip rfl rfl rfl skipU rfl rfl ?_
                  refine TO.skip rfl rfl rfl skipU rfl rfl ?_
                  refine TO.skip rfl rfl rfl skipU rfl rfl ?_
                  refine TO.skip rfl rfl rfl (skipF hb273) rfl rfl ?_
                  refine TO.s rfl rfl rfl (StepS.pickF rfl hb273 rfl) ?_
                  exact TO.up1 13 0 rfl rfl rfl rfl
              refine TO.s rfl rfl rfl (StepS.fld rfl kfieldB_52_1_1_true) ?_
              refine TO.stB (us := [.bool b274]) 9 [v122, .bool b274, v8, v46] rfl rfl rfl ksizeB_4_1_true rfl rfl rfl (by simp [Value.oneCell']) rfl ?_
              refine TO.code ?_
              refine TC.region ?_
              refine TO.s rfl rfl rfl (StepS.move rfl) ?_
              refine TO.s rfl rfl rfl (StepS.ari rfl rfl rfl) ?_
              refine TO.s rfl rfl rfl (StepS.assign rfl) ?_
              cases hb266
              refine TO.nil fun a w e s => ?_
              exact ⟨e.sub (lk_of_allIn ⟨rfl, rfl, rfl, rfl, rfl, rfl, rfl, trivial⟩), s⟩
            · replace hb266 := cond_f hc267 hb266
              cases hb266
              refine TC.exit rfl fun a w e s => ?_
              exact ⟨e.sub (lk_of_allIn ⟨rfl, rfl, rfl, rfl, rfl, rfl, trivial⟩), s⟩
          · exact fun a w e s => ⟨e.sub (lk_of_allIn ⟨rfl, rfl, rfl, rfl, rfl, rfl, rfl, trivial⟩), s⟩
          · rintro b263 rfl a w ⟨he, hs⟩
            dsimp only [Ctl.on] at hb257
            refine TC.use ?_ he hs
            refine TC.region ?_
            refine TO.s rfl rfl rfl (StepS.move rfl) ?_
            refine TO.s rfl rfl rfl (StepS.ari rfl rfl rfl) ?_
            refine TO.s rfl rfl rfl (StepS.assign rfl) ?_
            cases hb257
            refine TO.nil fun a w e s => ?_
            exact ⟨e.sub (lk_of_allIn ⟨rfl, rfl, rfl, rfl, rfl, rfl, trivial⟩), s⟩
          · rintro r rfl
            exact fun a w h => h.elim
        · replace hb257 := cond_f hc258 hb257
          cases hb257
          refine TC.exit rfl fun a w e s => ?_
          exact ⟨e.sub (lk_of_allIn ⟨rfl, rfl, trivial⟩), s⟩
      · exact fun a w e s => ⟨e.sub (lk_of_allIn ⟨rfl, rfl, rfl, rfl, rfl, rfl, trivial⟩), s⟩
      · rintro b254 rfl a w ⟨he, hs⟩
        dsimp only [Ctl.on] at hm
        refine TC.use ?_ he hs
        refine TC.k ?_
        refine TC.region ?_
        refine TO.s rfl rfl rfl (StepS.ldBA rfl (Ent.at 9 rfl) kaggB_52_4_true rfl rfl) ?_
        refine TO.pure (fun _ s => Rd.one (OwnS.rd (Ent.at 3 rfl)) s) fun oc284 => ?_
        refine TO.pure (fun _ s => Rd.one (OwnS.rd (Ent.at 10 rfl)) s) fun oc285 => ?_
        refine TO.pure (fun _ s => Rd.one (RR.top (SS.rr (Ent.at 5 rfl))) s) fun oc286 => ?_
        refine TO.stB (us := [v122, .bool b254, v8, v46]) 11 [v122, .bool b254, v8, v46] rfl rfl rfl ksizeB_52_4_true rfl rfl rfl (by intro u hu; simp only [List.mem_cons, List.not_mem_nil, or_false] at hu; rcases hu with rfl | rfl | rfl | rfl <;> first | exact oc284.1 | exact oc285.1 | exact oc286.1 | rfl) rfl ?_
        refine TO.code ?_
        cases hm
        refine TC.ret fun a w e s => ?_
        refine FRet.cell1 (P := Try.prog) (fn := Try.f27) e s rfl rfl (Ent.at 11 rfl) kaggB_52_4_true rfl ?_
        refine ⟨_, _, rfl, ⟨(v122), (v8), (v46), (hs47), rfl, rfl⟩, ?_⟩
        refine s.mono fun _ s => ?_
        replace s := Sat.front 5 rfl s
        replace s := Sat.front 10 rfl s
        replace s := Sat.front 5 rfl s
        replace s := Sat.erase 3 s
        replace s := Sat.erase 3 s
        replace s := Sat.erase 3 s
        replace s := Sat.erase 3 s
        replace s := Sat.erase 3 s
        replace s := Sat.erase 3 s
        replace s := Sat.erase 3 s
        replace s := Sat.erase 3 s
        replace s := Sat.erase 3 s
        replace s := Sat.erase 3 s
        exact s
      · rintro r rfl
        exact fun a w h => h.elim
    · rintro r rfl
      exact fun a w h => h.elim
  · rintro r rfl
    exact fun a w h => h.elim

set_option maxRecDepth 100000 in
theorem C6 {B : World} {L : List HP} {a0 : Int} {a1 : List (Int × Int × Int × Int)} {h1 : Value} {r0 : Bool} (e1 : Ent L (Rd 4 h1 (a1.map cTiiii))) (hm : F6 a0 a1 = some r0) {w : World} (st : St B L w) : Calls Try.prog 6 #[I a0, h1] w (fun e w' => (e = .returned (.bool r0) ∧ St B (L) w')) := by
  refine calls_of (N := 56) (L := L) (args := [I a0, h1]) Try.func6 rfl rfl rfl ?_ st
  dsimp only [F6] at hm
  refine TC.k ?_
  refine TC.region ?_
  refine TO.s rfl rfl rfl (StepS.assign rfl) ?_
  refine TO.code ?_
  refine TC.k ?_
  refine TC.region ?_
  refine TO.s rfl rfl rfl (StepS.move rfl) ?_
  refine TO.s rfl rfl rfl (StepS.move rfl) ?_
  obtain ⟨⟨r1, r2⟩, hc3, hm⟩ := bind_some hm
  refine TO.callO kcallB_26_true rfl rfl rfl (fun _ st => C26 e1 hc3 st) ?_
  rintro _ _ ⟨v4, v6, v8, hs9, rfl, rfl⟩
  refine TO.s rfl rfl rfl (StepS.move rfl) ?_
  refine TO.s rfl rfl rfl (StepS.extract rfl rfl) ?_
  refine TO.s rfl rfl rfl (StepS.extract rfl rfl) ?_
  refine TO.alloc kinfo_52_bind_zero_some_agg_slice_none_0_0_bool_false_slice_none_0_0_slice_none_0_0 rfl rfl fun b11 => ?_
  refine TO.pure (fun _ s => Rd.one (OwnS.rd (Ent.at 1 rfl)) s) fun oc12 => ?_
  refine TO.pure (fun _ s => Rd.one (OwnS.rd (Ent.at 2 rfl)) s) fun oc13 => ?_
  refine TO.pure (fun _ s => Rd.one (RR.top (SS.rr (Ent.at 3 rfl))) s) fun oc14 => ?_
  refine TO.stB (us := [v4, .bool r1.2.1, v6, v8]) 0 [v4, .bool r1.2.1, v6, v8] rfl rfl rfl ksizeB_52_4_true rfl rfl rfl (by intro u hu; simp only [List.mem_cons, List.not_mem_nil, or_false] at hu; rcases hu with rfl | rfl | rfl | rfl <;> first | exact oc12.1 | exact oc13.1 | exact oc14.1 | rfl) rfl ?_
  refine TO.s rfl rfl rfl (StepS.assign rfl) ?_
  refine TO.code ?_
  refine TC.k ?_
  refine TC.region ?_
  refine TO.s rfl rfl rfl (StepS.move rfl) ?_
  refine TO.s rfl rfl rfl (StepS.move rfl) ?_
  refine TO.s rfl rfl rfl (StepS.lenm rfl e1.tl.tl.tl.tl ksliceB_23_106_4_true rfl) ?_
  obtain ⟨r15, hc16, hm⟩ := bind_some hm
  refine TO.q rfl rfl rfl (StepQ.call kcallB_21_true rfl rfl (fun _ st => C21  hc16 st)) ?_
  refine TO.s rfl rfl rfl (StepS.assign rfl) ?_
  refine TO.code ?_
  refine TC.k ?_
  refine TC.region ?_
  refine TO.s rfl rfl rfl (StepS.build (cs := [.slice none 0 0, .bool false, .slice none 0 0, .slice none 0 0]) rfl (by kernel_rfl)) ?_
  refine TO.alloc kinfo_52_bind_zero_some_agg_slice_none_0_0_bool_false_slice_none_0_0_slice_none_0_0 rfl rfl fun b17 => ?_
  refine TO.stB (us := [.slice none 0 0, .bool false, .slice none 0 0, .slice none 0 0]) 0 [.slice none 0 0, .bool false, .slice none 0 0, .slice none 0 0] rfl rfl rfl ksizeB_52_4_true rfl rfl rfl (by simp [Value.oneCell']) rfl ?_
  refine TO.code ?_
  refine TC.k ?_
  refine TC.k ?_
  refine TC.region ?_
  refine TO.s rfl rfl rfl (StepS.move rfl) ?_
  refine TO.s rfl rfl rfl (StepS.cmp rfl rfl rfl) ?_
  refine TO.code ?_
  obtain ⟨⟨y20, y23, y27, b28⟩, hj29, hm⟩ := bind_some hm
  first | refine TC.cutM (fun a w => ∃ v18 : Value, ∃ v21 : Value, ∃ v24 : Value, ∃ hs25 : List Value, Mid 56 B [(5, .pointer (some ⟨b11, 0, none⟩)), (6, I r2), (7, I r15), (8, .pointer (some ⟨b17, 0, none⟩))] (OwnS 28 1 v18 (y20.map cI) :: OwnS 3 1 v21 (y23.map cI) :: SS 22 3 1 cI v24 hs25 (y27) :: Bx b17 52 [v18, .bool b28, v21, v24] :: Bx b11 52 [v4, .bool r1.2.1, v6, v8] :: OwnS 28 1 v4 (r1.1.map cI) :: OwnS 3 1 v6 (r1.2.2.1.map cI) :: SS 22 3 1 cI v8 hs9 (r1.2.2.2) :: L) a w) ?_ ?_ | refine TC.cutX (fun a w => ∃ v18 : Value, ∃ v21 : Value, ∃ v24 : Value, ∃ hs25 : List Value, Mid 56 B [(5, .pointer (some ⟨b11, 0, none⟩)), (6, I r2), (7, I r15), (8, .pointer (some ⟨b17, 0, none⟩))] (OwnS 28 1 v18 (y20.map cI) :: OwnS 3 1 v21 (y23.map cI) :: SS 22 3 1 cI v24 hs25 (y27) :: Bx b17 52 [v18, .bool b28, v21, v24] :: Bx b11 52 [v4, .bool r1.2.1, v6, v8] :: OwnS 28 1 v4 (r1.1.map cI) :: OwnS 3 1 v6 (r1.2.2.1.map cI) :: SS 22 3 1 cI v8 hs9 (r1.2.2.2) :: L) a w) ?_ ?_
  · refine TC.cond rfl (fun hc30 => ?_) (fun hc30 => ?_)
    · replace hj29 := cond_t hc30 hj29
      refine TC.region ?_
      refine TO.s rfl rfl rfl (StepS.move rfl) ?_
      refine TO.s rfl rfl rfl (StepS.move rfl) ?_
      obtain ⟨r31, hc32, hj29⟩ := bind_some hj29
      refine TO.callO kcallB_27_true rfl rfl rfl (fun _ st => C27 e1.tl.tl.tl.tl.tl hc32 st) ?_
      rintro _ _ ⟨v33, v35, v37, hs38, rfl, rfl⟩
      refine TO.pure (fun _ s => Rd.one (OwnS.rd (Ent.at 0 rfl)) s) fun oc40 => ?_
      refine TO.pure (fun _ s => Rd.one (OwnS.rd (Ent.at 1 rfl)) s) fun oc41 => ?_
      refine TO.pure (fun _ s => Rd.one (RR.top (SS.rr (Ent.at 2 rfl))) s) fun oc42 => ?_
      refine TO.stB (us := [v33, .bool r31.2.1, v35, v37]) 3 [v33, .bool r31.2.1, v35, v37] rfl rfl rfl ksizeB_52_4_true rfl rfl rfl (by intro u hu; simp only [List.mem_cons, List.not_mem_nil, or_false] at hu; rcases hu with rfl | rfl | rfl | rfl <;> first | exact oc40.1 | exact oc41.1 | exact oc42.1 | rfl) rfl ?_
      cases hj29
      refine TO.nil fun a w e s => ?_
      exact ⟨v33, v35, v37, hs38, e.sub (lk_of_allIn ⟨rfl, rfl, rfl, rfl, trivial⟩), s⟩
    · replace hj29 := cond_f hc30 hj29
      cases hj29
      refine TC.skip fun a w e s => ?_
      exact ⟨.slice none 0 0, .slice none 0 0, .slice none 0 0, [], e.sub (lk_of_allIn ⟨rfl, rfl, rfl, rfl, trivial⟩), s.mono fun _ s => (by replace s := Sat.nilSS (e := 22) (ee := 3) (sz := 1) (f := cI) s; replace s := Sat.nilS (e := 3) (sz := 1) (f := cI) s; replace s := Sat.nilS (e := 28) (sz := 1) (f := cI) s; exact Sat.by [7, 7, 7, 7, 7, 7, 7, 7] 8 0 (by kernel_rfl) s)⟩
  · intro a w ⟨v18, v21, v24, hs25, he, hs⟩
    refine TC.use ?_ he hs
    refine TC.k ?_
    refine TC.region ?_
    refine TO.s rfl rfl rfl (StepS.move rfl) ?_
    refine TO.s rfl rfl rfl (StepS.move rfl) ?_
    refine TO.s rfl rfl rfl (StepS.cmp rfl rfl rfl) ?_
    refine TO.s rfl rfl rfl (StepS.move rfl) ?_
    obtain ⟨b44, hj45, hm⟩ := bind_some hm
    refine TO.mid1 6 34 (.bool b44) ?_ ?_
    · refine bcase ((r2 == r15)) (fun hb43 => ?_) (fun hb43 => ?_)
      · replace hj45 := cond_t hb43 hj45
        refine TO.sw rfl rfl rfl hb43 rfl rfl (StepS.fld rfl kfieldB_52_0_0_true) ?_
        refine TO.sw rfl rfl rfl hb43 rfl rfl (StepS.ldB rfl (Ent.at 4 rfl) kscalB_24_true rfl) ?_
        refine TO.sw rfl rfl rfl hb43 rfl rfl (StepS.fld rfl kfieldB_52_0_0_true) ?_
        refine TO.sw rfl rfl rfl hb43 rfl rfl (StepS.ldB rfl (Ent.at 3 rfl) kscalB_24_true rfl) ?_
        obtain ⟨r46, hc47, hj45⟩ := bind_some hj45
        refine TO.qw rfl rfl rfl hb43 rfl rfl (StepQ.call kcallB_18_true rfl rfl (fun _ st => C18 (OwnS.rd (Ent.at 5 rfl)) (OwnS.rd (Ent.at 0 rfl)) hc47 st)) ?_
        cases hj45
        refine TO.s rfl rfl rfl (StepS.pickT rfl hb43 rfl) ?_
        exact TO.up1 6 0 rfl rfl rfl rfl
      · replace hj45 := cond_f hb43 hj45
        cases hj45
        refine TO.skip rfl rfl rfl (skipF hb43) rfl rfl ?_
        refine TO.skip rfl rfl rfl (skipF hb43) rfl rfl ?_
        refine TO.skip rfl rfl rfl (skipF hb43) rfl rfl ?_
        refine TO.skip rfl rfl rfl (skipF hb43) rfl rfl ?_
        refine TO.skip rfl rfl rfl (skipF hb43) rfl rfl ?_
        refine TO.s rfl rfl rfl (StepS.pickF rfl hb43 rfl) ?_
        exact TO.up1 6 0 rfl rfl rfl rfl
    refine TO.s rfl rfl rfl (StepS.move rfl) ?_
    refine TO.mid1 6 41 (.bool (b44 && (r1.2.1 == b28))) ?_ ?_
    · refine bcase (b44) (fun hb48 => ?_) (fun hb48 => ?_)
      · refine TO.sw rfl rfl rfl hb48 rfl rfl (StepS.fld rfl kfieldB_52_1_1_true) ?_
        refine TO.sw rfl rfl rfl hb48 rfl rfl (StepS.ldB rfl (Ent.at 4 rfl) kscalB_4_true rfl) ?_
        refine TO.sw rfl rfl rfl hb48 rfl rfl (StepS.fld rfl kfieldB_52_1_1_true) ?_
        refine TO.sw rfl rfl rfl hb48 rfl rfl (StepS.ldB rfl (Ent.at 3 rfl) kscalB_4_true rfl) ?_
        refine TO.sw rfl rfl rfl hb48 rfl rfl (StepS.eqB kunderlying_4_some_bool rfl rfl) ?_
        refine TO.s rfl rfl rfl (StepS.pickT rfl hb48 rfl) ?_
        exact TO.up1 6 0 rfl rfl (by rw [hb48]; rfl) rfl
      · refine TO.skip rfl rfl rfl (skipF hb48) rfl rfl ?_
        refine TO.skip rfl rfl rfl (skipF hb48) rfl rfl ?_
        refine TO.skip rfl rfl rfl (skipF hb48) rfl rfl ?_
        refine TO.skip rfl rfl rfl (skipF hb48) rfl rfl ?_
        refine TO.skip rfl rfl rfl (skipF hb48) rfl rfl ?_
        refine TO.s rfl rfl rfl (StepS.pickF rfl hb48 rfl) ?_
        exact TO.up1 6 0 rfl rfl (by rw [hb48]; rfl) rfl
    refine TO.s rfl rfl rfl (StepS.move rfl) ?_
    obtain ⟨b50, hj51, hm⟩ := bind_some hm
    refine TO.mid1 6 48 (.bool b50) ?_ ?_
    · refine bcase ((b44 && (r1.2.1 == b28))) (fun hb49 => ?_) (fun hb49 => ?_)
      · replace hj51 := cond_t hb49 hj51
        refine TO.sw rfl rfl rfl hb49 rfl rfl (StepS.fld rfl kfieldB_52_2_2_true) ?_
        refine TO.sw rfl rfl rfl hb49 rfl rfl (StepS.ldB rfl (Ent.at 4 rfl) kscalB_22_true rfl) ?_
        refine TO.sw rfl rfl rfl hb49 rfl rfl (StepS.fld rfl kfieldB_52_2_2_true) ?_
        refine TO.sw rfl rfl rfl hb49 rfl rfl (StepS.ldB rfl (Ent.at 3 rfl) kscalB_22_true rfl) ?_
        obtain ⟨r52, hc53, hj51⟩ := bind_some hj51
        refine TO.qw rfl rfl rfl hb49 rfl rfl (StepQ.call kcallB_25_true rfl rfl (fun _ st => C25 (OwnS.rd (Ent.at 6 rfl)) (OwnS.rd (Ent.at 1 rfl)) hc53 st)) ?_
        cases hj51
        refine TO.s rfl rfl rfl (StepS.pickT rfl hb49 rfl) ?_
        exact TO.up1 6 0 rfl rfl rfl rfl
      · replace hj51 := cond_f hb49 hj51
        cases hj51
        refine TO.skip rfl rfl rfl (skipF hb49) rfl rfl ?_
        refine TO.skip rfl rfl rfl (skipF hb49) rfl rfl ?_
        refine TO.skip rfl rfl rfl (skipF hb49) rfl rfl ?_
        refine TO.skip rfl rfl rfl (skipF hb49) rfl rfl ?_
        refine TO.skip rfl rfl rfl (skipF hb49) rfl rfl ?_
        refine TO.s rfl rfl rfl (StepS.pickF rfl hb49 rfl) ?_
        exact TO.up1 6 0 rfl rfl rfl rfl
    refine TO.s rfl rfl rfl (StepS.move rfl) ?_
    obtain ⟨b55, hj56, hm⟩ := bind_some hm
    refine TO.mid1 6 55 (.bool b55) ?_ ?_
    · refine bcase (b50) (fun hb54 => ?_) (fun hb54 => ?_)
      · replace hj56 := cond_t hb54 hj56
        refine TO.sw rfl rfl rfl hb54 rfl rfl (StepS.fld rfl kfieldB_52_3_3_true) ?_
        refine TO.sw rfl rfl rfl hb54 rfl rfl (StepS.ldB rfl (Ent.at 4 rfl) kscalB_50_true rfl) ?_
        refine TO.sw rfl rfl rfl hb54 rfl rfl (StepS.fld rfl kfieldB_52_3_3_true) ?_
        refine TO.sw rfl rfl rfl hb54 rfl rfl (StepS.ldB rfl (Ent.at 3 rfl) kscalB_50_true rfl) ?_
        obtain ⟨r57, hc58, hj56⟩ := bind_some hj56
        refine TO.qw rfl rfl rfl hb54 rfl rfl (StepQ.call kcallB_28_true rfl rfl (fun _ st => C28 (SS.rr (Ent.at 7 rfl)) (SS.rr (Ent.at 2 rfl)) hc58 st)) ?_
        cases hj56
        refine TO.s rfl rfl rfl (StepS.pickT rfl hb54 rfl) ?_
        exact TO.up1 6 0 rfl rfl rfl rfl
      · replace hj56 := cond_f hb54 hj56
        cases hj56
        refine TO.skip rfl rfl rfl (skipF hb54) rfl rfl ?_
        refine TO.skip rfl rfl rfl (skipF hb54) rfl rfl ?_
        refine TO.skip rfl rfl rfl (skipF hb54) rfl rfl ?_
        refine TO.skip rfl rfl rfl (skipF hb54) rfl rfl ?_
        refine TO.skip rfl rfl rfl (skipF hb54) rfl rfl ?_
        refine TO.s rfl rfl rfl (StepS.pickF rfl hb54 rfl) ?_
        exact TO.up1 6 0 rfl rfl rfl rfl
    refine TO.s rfl rfl rfl (StepS.assign rfl) ?_
    refine TO.code ?_
    cases hm
    refine TC.ret fun a w e s => ?_
    refine FRet.mk1 (P := Try.prog) (fn := Try.f6) (t := 4) e rfl rfl ?_
    exact ⟨rfl, s.mono fun _ => Sat.dropN 8⟩
end Go.Proofs.Ythfkdepcnhhepaa
