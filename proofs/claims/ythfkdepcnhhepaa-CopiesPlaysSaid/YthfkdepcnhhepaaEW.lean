/-
  The walks: each Go function returns what its model says. Written by a program (gen.py).
-/
import Derived.Test.YthfkdepcnhhepaaProg
import Derived.KernelRfl
import Derived.Test.YthfkdepcnhhepaaEM
namespace Go.Proofs.Ythfkdepcnhhepaa
open Go Go.Bk
set_option linter.unusedVariables false
set_option linter.unnecessarySimpa false
theorem ksliceB_22_3_1_true : sliceB Try.prog 22 3 1 = true := by kernel_rfl
theorem kscalB_3_true : scalB Try.prog 3 = true := by kernel_rfl
theorem kinfo_69_bind_zero_some_agg_slice_none_0_0_slice_none_0_0_slice_none_0_0_slice_none_0_0 : (Try.prog.info? 69).bind (·.zero) = some (.agg #[.slice none 0 0, .slice none 0 0, .slice none 0 0, .slice none 0 0]) := by kernel_rfl
theorem kelemB_22_3_1_8_true : elemB Try.prog 22 3 1 8 = true := by kernel_rfl
theorem kinfo_3_bind_zero_some_I_0 : (Try.prog.info? 3).bind (·.zero) = some (I 0) := by kernel_rfl
theorem kfollows_mixedOrders_true : Try.prog.follows .mixedOrders = true := by kernel_rfl
theorem ksizeB_69_4_true : sizeB Try.prog 69 4 = true := by kernel_rfl
theorem kelemB_115_4_1_1_true : elemB Try.prog 115 4 1 1 = true := by kernel_rfl
theorem kinfo_4_bind_zero_some_bool_false : (Try.prog.info? 4).bind (·.zero) = some (.bool false) := by kernel_rfl
theorem kelemB_67_161_5_40_true : elemB Try.prog 67 161 5 40 = true := by kernel_rfl
theorem kinfo_161_bind_zero_some_agg_I_0_I_0_I_0_bool_false_I_0 : (Try.prog.info? 161).bind (·.zero) = some (.agg #[I 0, I 0, I 0, .bool false, I 0]) := by kernel_rfl
theorem kelemB_50_22_1_24_true : elemB Try.prog 50 22 1 24 = true := by kernel_rfl
theorem kinfo_22_bind_zero_some_slice_none_0_0 : (Try.prog.info? 22).bind (·.zero) = some (.slice none 0 0) := by kernel_rfl
theorem ksliceB_23_106_4_true : sliceB Try.prog 23 106 4 = true := by kernel_rfl
theorem kaggB_106_4_true : aggB Try.prog 106 4 = true := by kernel_rfl
theorem kinfo_106_bind_zero_some_agg_I_0_I_0_I_0_I_0 : (Try.prog.info? 106).bind (·.zero) = some (.agg #[I 0, I 0, I 0, I 0]) := by kernel_rfl
theorem ksizeB_106_4_true : sizeB Try.prog 106 4 = true := by kernel_rfl
theorem kfieldB_106_1_1_true : fieldB Try.prog 106 1 1 = true := by kernel_rfl
theorem kfieldB_106_0_0_true : fieldB Try.prog 106 0 0 = true := by kernel_rfl
theorem kfieldB_106_2_2_true : fieldB Try.prog 106 2 2 = true := by kernel_rfl
theorem ksliceB_115_4_1_true : sliceB Try.prog 115 4 1 = true := by kernel_rfl
theorem kscalB_4_true : scalB Try.prog 4 = true := by kernel_rfl
theorem ksizeB_4_1_true : sizeB Try.prog 4 1 = true := by kernel_rfl
theorem ksizeB_3_1_true : sizeB Try.prog 3 1 = true := by kernel_rfl
theorem ksliceB_50_22_1_true : sliceB Try.prog 50 22 1 = true := by kernel_rfl
theorem ksizeB_22_1_true : sizeB Try.prog 22 1 = true := by kernel_rfl
theorem kfieldB_106_3_3_true : fieldB Try.prog 106 3 3 = true := by kernel_rfl
theorem ksliceB_67_161_5_true : sliceB Try.prog 67 161 5 = true := by kernel_rfl
theorem ksizeB_161_5_true : sizeB Try.prog 161 5 = true := by kernel_rfl
theorem kfieldB_161_4_4_true : fieldB Try.prog 161 4 4 = true := by kernel_rfl
theorem kscalB_22_true : scalB Try.prog 22 = true := by kernel_rfl
theorem kcallB_66_true : callB Try.prog 66 = true := by kernel_rfl
theorem kfieldB_69_2_2_true : fieldB Try.prog 69 2 2 = true := by kernel_rfl
theorem kfieldB_69_3_3_true : fieldB Try.prog 69 3 3 = true := by kernel_rfl
theorem kfieldB_161_2_2_true : fieldB Try.prog 161 2 2 = true := by kernel_rfl
theorem kfieldB_69_1_1_true : fieldB Try.prog 69 1 1 = true := by kernel_rfl
theorem kscalB_67_true : scalB Try.prog 67 = true := by kernel_rfl
theorem kaggB_161_5_true : aggB Try.prog 161 5 = true := by kernel_rfl
theorem ksizeB_67_1_true : sizeB Try.prog 67 1 = true := by kernel_rfl
theorem kfieldB_161_3_3_true : fieldB Try.prog 161 3 3 = true := by kernel_rfl
theorem kfieldB_69_0_0_true : fieldB Try.prog 69 0 0 = true := by kernel_rfl
theorem kscalB_24_true : scalB Try.prog 24 = true := by kernel_rfl
theorem kelemB_24_28_1_8_true : elemB Try.prog 24 28 1 8 = true := by kernel_rfl
theorem kinfo_28_bind_zero_some_I_0 : (Try.prog.info? 28).bind (·.zero) = some (I 0) := by kernel_rfl
theorem ksizeB_24_1_true : sizeB Try.prog 24 1 = true := by kernel_rfl
theorem kaggB_69_4_true : aggB Try.prog 69 4 = true := by kernel_rfl

set_option maxRecDepth 100000 in
theorem C66 {B : World} {L : List HP} {a0 : List Int} {a1 : Int} {h0 : Value} {r0 : Bool} (e0 : Ent L (Rd 1 h0 (a0.map cI))) (hm : F66 a0 a1 = some r0) {w : World} (st : St B L w) : Calls Try.prog 66 #[h0, I a1] w (fun e w' => (e = .returned (.bool r0) ∧ St B (L) w')) := by
  refine calls_of (N := 17) (L := L) (args := [h0, I a1]) Try.func66 rfl rfl rfl ?_ st
  dsimp only [F66] at hm
  refine TC.k ?_
  refine TC.region ?_
  refine TO.s rfl rfl rfl (StepS.assign rfl) ?_
  refine TO.code ?_
  refine TC.k ?_
  refine TC.k ?_
  refine TC.region ?_
  refine TO.s rfl rfl rfl (StepS.move rfl) ?_
  refine TO.s rfl rfl rfl (StepS.lenm rfl e0 ksliceB_22_3_1_true rfl) ?_
  refine TO.s rfl rfl rfl (StepS.move rfl) ?_
  refine TO.code ?_
  obtain ⟨o3, hw4, hm⟩ := bind_some hm
  refine TC.loop hw4 (fun x1 => fun a w => Mid 17 B [(1, I a1), (7, h0), (8, I (a0.length : Int)), (9, I x1)] (L) a w) (fun _ => fun a w => Mid 17 B [] (L) a w) (fun r0 => FRet Try.prog Try.f66 (fun e w' => (e = .returned (.bool r0) ∧ St B (L) w'))) ?_ ?_ ?_ ?_
  · rintro x1 o3r hb5 a w ⟨he, hs⟩
    dsimp only [F66_L0] at hb5
    refine TC.use ?_ he hs
    refine TC.k ?_
    refine TC.region ?_
    refine TO.s rfl rfl rfl (StepS.cmp rfl rfl rfl) ?_
    refine TO.code ?_
    refine TC.k ?_
    refine TC.cond rfl (fun hc6 => ?_) (fun hc6 => ?_)
    · replace hb5 := cond_t hc6 hb5
      refine TC.skipk ?_
      refine TC.k ?_
      refine TC.block ?_
      refine TC.k ?_
      refine TC.region ?_
      obtain ⟨x7, hx8, hb5⟩ := bind_some hb5
      refine TO.s rfl rfl rfl (StepS.idx rfl rfl e0 ksliceB_22_3_1_true (idx_spec hx8).1 (idxm_lt hx8)) ?_
      refine TO.s rfl rfl rfl (StepS.ld0 rfl e0 kscalB_3_true rfl (idxm hx8) rfl) ?_
      refine TO.s rfl rfl rfl (StepS.assign rfl) ?_
      refine TO.code ?_
      refine TC.k ?_
      refine TC.region ?_
      refine TO.s rfl rfl rfl (StepS.move rfl) ?_
      refine TO.s rfl rfl rfl (StepS.move rfl) ?_
      refine TO.s rfl rfl rfl (StepS.cmp rfl rfl rfl) ?_
      refine TO.code ?_
      refine TC.cond rfl (fun hc9 => ?_) (fun hc9 => ?_)
      · replace hb5 := cond_t hc9 hb5
        refine TC.k ?_
        refine TC.region ?_
        refine TO.s rfl rfl rfl (StepS.assign rfl) ?_
        refine TO.code ?_
        cases hb5
        refine TC.ret fun a w e s => ?_
        refine FRet.mk1 (P := Try.prog) (fn := Try.f66) (t := 4) e rfl rfl ?_
        exact ⟨rfl, s.mono fun _ => Sat.dropN 0⟩
      · replace hb5 := cond_f hc9 hb5
        refine TC.skipk ?_
        refine TC.region ?_
        refine TO.s rfl rfl rfl (StepS.ari rfl rfl rfl) ?_
        refine TO.s rfl rfl rfl (StepS.move rfl) ?_
        cases hb5
        refine TO.nil fun a w e s => ?_
        exact ⟨e.sub (lk_of_allIn ⟨rfl, rfl, rfl, rfl, trivial⟩), s⟩
    · replace hb5 := cond_f hc6 hb5
      cases hb5
      refine TC.exit rfl fun a w e s => ?_
      exact ⟨e.sub (lk_of_allIn trivial), s⟩
  · exact fun a w e s => ⟨e.sub (lk_of_allIn ⟨rfl, rfl, rfl, rfl, trivial⟩), s⟩
  · rintro _ rfl a w ⟨he, hs⟩
    dsimp only [Ctl.on] at hm
    refine TC.use ?_ he hs
    refine TC.k ?_
    refine TC.region ?_
    refine TO.s rfl rfl rfl (StepS.assign rfl) ?_
    refine TO.code ?_
    cases hm
    refine TC.ret fun a w e s => ?_
    refine FRet.mk1 (P := Try.prog) (fn := Try.f66) (t := 4) e rfl rfl ?_
    exact ⟨rfl, s.mono fun _ => Sat.dropN 0⟩
  · rintro r rfl
    cases hm
    exact fun a w h => h

set_option maxHeartbeats 4000000 in
set_option maxRecDepth 100000 in
theorem C34 {B : World} {L : List HP} {a0 : Int} {a1 : List (Int × Int × Int × Int)} {h1 : Value} {r0 : (List Int) × (List (Int × Int × Int × Bool × Int)) × (List Int) × List Int} (e1 : Ent L (Rd 4 h1 (a1.map cTiiii))) (hm : F34 a0 a1 = some r0) {w : World} (st : St B L w) : Calls Try.prog 34 #[I a0, h1] w (fun e w' => ∃ v M, e = .returned v ∧ (∃ (qv1 : Value) (qv2 : Value) (qv3 : Value) (qv4 : Value), v = .agg #[qv1, qv2, qv3, qv4] ∧ M = (OwnS 28 1 qv1 (r0.1.map cI) :: OwnS 161 5 qv2 (r0.2.1.map cTiiibi) :: OwnS 3 1 qv3 (r0.2.2.1.map cI) :: OwnS 3 1 qv4 (r0.2.2.2.map cI) :: L)) ∧ St B M w') := by
  refine calls_of (N := 315) (L := L) (args := [I a0, h1]) Try.func34 rfl rfl rfl ?_ st
  dsimp only [F34] at hm
  refine TC.k ?_
  refine TC.region ?_
  refine TO.alloc kinfo_69_bind_zero_some_agg_slice_none_0_0_slice_none_0_0_slice_none_0_0_slice_none_0_0 rfl rfl fun b5 => ?_
  refine TO.code ?_
  refine TC.k ?_
  obtain ⟨⟨y9, y12⟩, hj13, hm⟩ := bind_some hm
  first | refine TC.cutM (fun a w => ∃ v7 : Value, ∃ v10 : Value, ∃ bq6_5_1 : Nat, Mid 315 B [(0, I a0), (1, h1), (4, .pointer (some ⟨b5, 0, none⟩)), (5, .pointer (some ⟨bq6_5_1, 0, none⟩))] (OwnS 3 1 v7 (y9.map cI) :: OwnS 3 1 v10 (y12.map cI) :: Bx bq6_5_1 69 [.slice none 0 0, .slice none 0 0, v7, v10] :: Bx b5 69 [.slice none 0 0, .slice none 0 0, .slice none 0 0, .slice none 0 0] :: L) a w) ?_ ?_ | refine TC.cutX (fun a w => ∃ v7 : Value, ∃ v10 : Value, ∃ bq6_5_1 : Nat, Mid 315 B [(0, I a0), (1, h1), (4, .pointer (some ⟨b5, 0, none⟩)), (5, .pointer (some ⟨bq6_5_1, 0, none⟩))] (OwnS 3 1 v7 (y9.map cI) :: OwnS 3 1 v10 (y12.map cI) :: Bx bq6_5_1 69 [.slice none 0 0, .slice none 0 0, v7, v10] :: Bx b5 69 [.slice none 0 0, .slice none 0 0, .slice none 0 0, .slice none 0 0] :: L) a w) ?_ ?_
  · obtain ⟨yq6_1_1, hkq6_1_2, hj13⟩ := bind_some hj13
    obtain ⟨yq6_3_1, hkq6_3_2, hj13⟩ := bind_some hj13
    refine TC.region_any (Bx b5 69 [.slice none 0 0, .slice none 0 0, .slice none 0 0, .slice none 0 0] :: L) 6 7 kfollows_mixedOrders_true rfl ?_
    refine TA.takeW 0 rfl rfl rfl rfl (StepS.move rfl) (by kernel_rfl) (by kernel_rfl) (by kernel_rfl) rfl (.inr (fun _ s => s)) ?_
    refine TA.takeW 2 rfl rfl rfl rfl (StepS.move rfl) (by kernel_rfl) (by kernel_rfl) (by kernel_rfl) rfl (.inr (fun _ s => s)) ?_
    refine TA.all3 (i := 1) (j := 3) (k := 5) (by kernel_rfl) ?_ ?_ ?_
    · refine TB.of rfl ?_
      refine TO.mkS (f := cI) (za := 0) kelemB_22_3_1_8_true kinfo_3_bind_zero_some_I_0 rfl (by decide) rfl rfl hkq6_1_2 rfl fun vq6_1_3 => ?_
      refine TA.back (.inr (fun _ s => Sat.by [1] 1 1 (by kernel_rfl) s)) ?_
      refine TA.asL (L' := (OwnS 3 1 vq6_1_3 (yq6_1_1.map cI) :: Bx b5 69 [.slice none 0 0, .slice none 0 0, .slice none 0 0, .slice none 0 0] :: L)) (listed' := #[true, true, true, false, false, false, false]) (by kernel_rfl) (by kernel_rfl) ?_
      refine TA.all2 (i := 3) (j := 5) (by kernel_rfl) ?_ ?_
      · refine TB.of rfl ?_
        refine TO.mkS (f := cI) (za := 0) kelemB_22_3_1_8_true kinfo_3_bind_zero_some_I_0 rfl (by decide) rfl rfl hkq6_3_2 rfl fun vq6_3_3 => ?_
        refine TA.back (.inr (fun _ s => Sat.by [2] 1 2 (by kernel_rfl) s)) ?_
        refine TA.asL (L' := (OwnS 3 1 vq6_3_3 (yq6_3_1.map cI) :: OwnS 3 1 vq6_1_3 (yq6_1_1.map cI) :: Bx b5 69 [.slice none 0 0, .slice none 0 0, .slice none 0 0, .slice none 0 0] :: L)) (listed' := #[true, true, true, true, false, false, false]) (by kernel_rfl) (by kernel_rfl) ?_
        refine TA.all2 (i := 4) (j := 5) (by kernel_rfl) ?_ ?_
        · refine TB.of rfl ?_
          refine TO.pure (fun _ s => Rd.one (OwnS.rd (Ent.at 1 rfl)) s) fun ocq6_4_1 => ?_
          refine TO.pure (fun _ s => Rd.one (OwnS.rd (Ent.at 0 rfl)) s) fun ocq6_4_2 => ?_
          refine TO.s rfl rfl rfl (StepS.buildS (us := [(2, .agg #[vq6_1_3]), (3, .agg #[vq6_3_3])]) (cs := [.slice none 0 0, .slice none 0 0, vq6_1_3, vq6_3_3]) rfl (by simp only [List.map_cons, List.map_nil, ocq6_4_1.2, ocq6_4_2.2] <;> rfl) (by kernel_rfl)) ?_
          refine TA.back (.inr (fun _ s => Sat.by [2] 1 2 (by kernel_rfl) s)) ?_
          refine TA.all1 (i := 5) (by kernel_rfl) ?_
          refine TB.of rfl ?_
          refine TO.alloc kinfo_69_bind_zero_some_agg_slice_none_0_0_slice_none_0_0_slice_none_0_0_slice_none_0_0 rfl rfl fun bq6_5_1 => ?_
          refine TA.back (.inr (fun _ s => Sat.by [3] 1 3 (by kernel_rfl) s)) ?_
          refine TA.asL (L' := (Bx bq6_5_1 69 [.slice none 0 0, .slice none 0 0, .slice none 0 0, .slice none 0 0] :: OwnS 3 1 vq6_3_3 (yq6_3_1.map cI) :: OwnS 3 1 vq6_1_3 (yq6_1_1.map cI) :: Bx b5 69 [.slice none 0 0, .slice none 0 0, .slice none 0 0, .slice none 0 0] :: L)) (listed' := #[true, true, true, true, true, true, false]) (by kernel_rfl) (by kernel_rfl) ?_
          refine TA.all1 (i := 6) (by kernel_rfl) ?_
          refine TB.of rfl ?_
          refine TO.pure (fun _ s => Rd.one (OwnS.rd (Ent.at 2 rfl)) s) fun ocq6_6_1 => ?_
          refine TO.pure (fun _ s => Rd.one (OwnS.rd (Ent.at 1 rfl)) s) fun ocq6_6_2 => ?_
          refine TO.stB (us := [.slice none 0 0, .slice none 0 0, vq6_1_3, vq6_3_3]) 0 [.slice none 0 0, .slice none 0 0, vq6_1_3, vq6_3_3] rfl rfl rfl ksizeB_69_4_true rfl rfl rfl (by intro u hu; simp only [List.mem_cons, List.not_mem_nil, or_false] at hu; rcases hu with rfl | rfl | rfl | rfl <;> first | exact ocq6_6_1.1 | exact ocq6_6_2.1 | rfl) rfl ?_
          refine TA.back (.inl (by kernel_rfl)) ?_
          refine TA.asL (L' := (Bx bq6_5_1 69 [.slice none 0 0, .slice none 0 0, vq6_1_3, vq6_3_3] :: OwnS 3 1 vq6_3_3 (yq6_3_1.map cI) :: OwnS 3 1 vq6_1_3 (yq6_1_1.map cI) :: Bx b5 69 [.slice none 0 0, .slice none 0 0, .slice none 0 0, .slice none 0 0] :: L)) (listed' := #[true, true, true, true, true, true, true]) (by kernel_rfl) (by kernel_rfl) ?_
          cases hj13
          refine TA.nil (by kernel_rfl) fun a w e s => ?_
          exact ⟨vq6_1_3, vq6_3_3, bq6_5_1, e.sub (lk_of_allIn ⟨rfl, rfl, rfl, rfl, trivial⟩), s.mono fun _ s => (by exact Sat.by [3, 1, 2, 3] 4 0 (by kernel_rfl) s)⟩
        · refine TB.of rfl ?_
          refine TO.alloc kinfo_69_bind_zero_some_agg_slice_none_0_0_slice_none_0_0_slice_none_0_0_slice_none_0_0 rfl rfl fun bq6_5_1 => ?_
          refine TA.back (.inr (fun _ s => Sat.by [3] 1 3 (by kernel_rfl) s)) ?_
          refine TA.asL (L' := (Bx bq6_5_1 69 [.slice none 0 0, .slice none 0 0, .slice none 0 0, .slice none 0 0] :: OwnS 3 1 vq6_3_3 (yq6_3_1.map cI) :: OwnS 3 1 vq6_1_3 (yq6_1_1.map cI) :: Bx b5 69 [.slice none 0 0, .slice none 0 0, .slice none 0 0, .slice none 0 0] :: L)) (listed' := #[true, true, true, true, false, true, false]) (by kernel_rfl) (by kernel_rfl) ?_
          refine TA.all1 (i := 4) (by kernel_rfl) ?_
          refine TB.of rfl ?_
          refine TO.pure (fun _ s => Rd.one (OwnS.rd (Ent.at 2 rfl)) s) fun ocq6_4_1 => ?_
          refine TO.pure (fun _ s => Rd.one (OwnS.rd (Ent.at 1 rfl)) s) fun ocq6_4_2 => ?_
          refine TO.s rfl rfl rfl (StepS.buildS (us := [(2, .agg #[vq6_1_3]), (3, .agg #[vq6_3_3])]) (cs := [.slice none 0 0, .slice none 0 0, vq6_1_3, vq6_3_3]) rfl (by simp only [List.map_cons, List.map_nil, ocq6_4_1.2, ocq6_4_2.2] <;> rfl) (by kernel_rfl)) ?_
          refine TA.back (.inr (fun _ s => Sat.by [3] 1 3 (by kernel_rfl) s)) ?_
          refine TA.all1 (i := 6) (by kernel_rfl) ?_
          refine TB.of rfl ?_
          refine TO.pure (fun _ s => Rd.one (OwnS.rd (Ent.at 2 rfl)) s) fun ocq6_6_1 => ?_
          refine TO.pure (fun _ s => Rd.one (OwnS.rd (Ent.at 1 rfl)) s) fun ocq6_6_2 => ?_
          refine TO.stB (us := [.slice none 0 0, .slice none 0 0, vq6_1_3, vq6_3_3]) 0 [.slice none 0 0, .slice none 0 0, vq6_1_3, vq6_3_3] rfl rfl rfl ksizeB_69_4_true rfl rfl rfl (by intro u hu; simp only [List.mem_cons, List.not_mem_nil, or_false] at hu; rcases hu with rfl | rfl | rfl | rfl <;> first | exact ocq6_6_1.1 | exact ocq6_6_2.1 | rfl) rfl ?_
          refine TA.back (.inl (by kernel_rfl)) ?_
          refine TA.asL (L' := (Bx bq6_5_1 69 [.slice none 0 0, .slice none 0 0, vq6_1_3, vq6_3_3] :: OwnS 3 1 vq6_3_3 (yq6_3_1.map cI) :: OwnS 3 1 vq6_1_3 (yq6_1_1.map cI) :: Bx b5 69 [.slice none 0 0, .slice none 0 0, .slice none 0 0, .slice none 0 0] :: L)) (listed' := #[true, true, true, true, true, true, true]) (by kernel_rfl) (by kernel_rfl) ?_
          cases hj13
          refine TA.nil (by kernel_rfl) fun a w e s => ?_
          exact ⟨vq6_1_3, vq6_3_3, bq6_5_1, e.sub (lk_of_allIn ⟨rfl, rfl, rfl, rfl, trivial⟩), s.mono fun _ s => (by exact Sat.by [3, 1, 2, 3] 4 0 (by kernel_rfl) s)⟩
      · refine TB.of rfl ?_
        refine TO.alloc kinfo_69_bind_zero_some_agg_slice_none_0_0_slice_none_0_0_slice_none_0_0_slice_none_0_0 rfl rfl fun bq6_5_1 => ?_
        refine TA.back (.inr (fun _ s => Sat.by [2] 1 2 (by kernel_rfl) s)) ?_
        refine TA.asL (L' := (Bx bq6_5_1 69 [.slice none 0 0, .slice none 0 0, .slice none 0 0, .slice none 0 0] :: OwnS 3 1 vq6_1_3 (yq6_1_1.map cI) :: Bx b5 69 [.slice none 0 0, .slice none 0 0, .slice none 0 0, .slice none 0 0] :: L)) (listed' := #[true, true, true, false, false, true, false]) (by kernel_rfl) (by kernel_rfl) ?_
        refine TA.all1 (i := 3) (by kernel_rfl) ?_
        refine TB.of rfl ?_
        refine TO.mkS (f := cI) (za := 0) kelemB_22_3_1_8_true kinfo_3_bind_zero_some_I_0 rfl (by decide) rfl rfl hkq6_3_2 rfl fun vq6_3_3 => ?_
        refine TA.back (.inr (fun _ s => Sat.by [3] 1 3 (by kernel_rfl) s)) ?_
        refine TA.asL (L' := (OwnS 3 1 vq6_3_3 (yq6_3_1.map cI) :: Bx bq6_5_1 69 [.slice none 0 0, .slice none 0 0, .slice none 0 0, .slice none 0 0] :: OwnS 3 1 vq6_1_3 (yq6_1_1.map cI) :: Bx b5 69 [.slice none 0 0, .slice none 0 0, .slice none 0 0, .slice none 0 0] :: L)) (listed' := #[true, true, true, true, false, true, false]) (by kernel_rfl) (by kernel_rfl) ?_
        refine TA.all1 (i := 4) (by kernel_rfl) ?_
        refine TB.of rfl ?_
        refine TO.pure (fun _ s => Rd.one (OwnS.rd (Ent.at 2 rfl)) s) fun ocq6_4_1 => ?_
        refine TO.pure (fun _ s => Rd.one (OwnS.rd (Ent.at 0 rfl)) s) fun ocq6_4_2 => ?_
        refine TO.s rfl rfl rfl (StepS.buildS (us := [(2, .agg #[vq6_1_3]), (3, .agg #[vq6_3_3])]) (cs := [.slice none 0 0, .slice none 0 0, vq6_1_3, vq6_3_3]) rfl (by simp only [List.map_cons, List.map_nil, ocq6_4_1.2, ocq6_4_2.2] <;> rfl) (by kernel_rfl)) ?_
        refine TA.back (.inr (fun _ s => Sat.by [3] 1 3 (by kernel_rfl) s)) ?_
        refine TA.all1 (i := 6) (by kernel_rfl) ?_
        refine TB.of rfl ?_
        refine TO.pure (fun _ s => Rd.one (OwnS.rd (Ent.at 2 rfl)) s) fun ocq6_6_1 => ?_
        refine TO.pure (fun _ s => Rd.one (OwnS.rd (Ent.at 0 rfl)) s) fun ocq6_6_2 => ?_
        refine TO.stB (us := [.slice none 0 0, .slice none 0 0, vq6_1_3, vq6_3_3]) 1 [.slice none 0 0, .slice none 0 0, vq6_1_3, vq6_3_3] rfl rfl rfl ksizeB_69_4_true rfl rfl rfl (by intro u hu; simp only [List.mem_cons, List.not_mem_nil, or_false] at hu; rcases hu with rfl | rfl | rfl | rfl <;> first | exact ocq6_6_1.1 | exact ocq6_6_2.1 | rfl) rfl ?_
        refine TA.back (.inl (by kernel_rfl)) ?_
        refine TA.asL (L' := (OwnS 3 1 vq6_3_3 (yq6_3_1.map cI) :: Bx bq6_5_1 69 [.slice none 0 0, .slice none 0 0, vq6_1_3, vq6_3_3] :: OwnS 3 1 vq6_1_3 (yq6_1_1.map cI) :: Bx b5 69 [.slice none 0 0, .slice none 0 0, .slice none 0 0, .slice none 0 0] :: L)) (listed' := #[true, true, true, true, true, true, true]) (by kernel_rfl) (by kernel_rfl) ?_
        cases hj13
        refine TA.nil (by kernel_rfl) fun a w e s => ?_
        exact ⟨vq6_1_3, vq6_3_3, bq6_5_1, e.sub (lk_of_allIn ⟨rfl, rfl, rfl, rfl, trivial⟩), s.mono fun _ s => (by exact Sat.by [3, 2, 2, 3] 4 0 (by kernel_rfl) s)⟩
    · refine TB.of rfl ?_
      refine TO.mkS (f := cI) (za := 0) kelemB_22_3_1_8_true kinfo_3_bind_zero_some_I_0 rfl (by decide) rfl rfl hkq6_3_2 rfl fun vq6_3_3 => ?_
      refine TA.back (.inr (fun _ s => Sat.by [1] 1 1 (by kernel_rfl) s)) ?_
      refine TA.asL (L' := (OwnS 3 1 vq6_3_3 (yq6_3_1.map cI) :: Bx b5 69 [.slice none 0 0, .slice none 0 0, .slice none 0 0, .slice none 0 0] :: L)) (listed' := #[true, false, true, true, false, false, false]) (by kernel_rfl) (by kernel_rfl) ?_
      refine TA.all2 (i := 1) (j := 5) (by kernel_rfl) ?_ ?_
      · refine TB.of rfl ?_
        refine TO.mkS (f := cI) (za := 0) kelemB_22_3_1_8_true kinfo_3_bind_zero_some_I_0 rfl (by decide) rfl rfl hkq6_1_2 rfl fun vq6_1_3 => ?_
        refine TA.back (.inr (fun _ s => Sat.by [2] 1 2 (by kernel_rfl) s)) ?_
        refine TA.asL (L' := (OwnS 3 1 vq6_1_3 (yq6_1_1.map cI) :: OwnS 3 1 vq6_3_3 (yq6_3_1.map cI) :: Bx b5 69 [.slice none 0 0, .slice none 0 0, .slice none 0 0, .slice none 0 0] :: L)) (listed' := #[true, true, true, true, false, false, false]) (by kernel_rfl) (by kernel_rfl) ?_
        refine TA.all2 (i := 4) (j := 5) (by kernel_rfl) ?_ ?_
        · refine TB.of rfl ?_
          refine TO.pure (fun _ s => Rd.one (OwnS.rd (Ent.at 0 rfl)) s) fun ocq6_4_1 => ?_
          refine TO.pure (fun _ s => Rd.one (OwnS.rd (Ent.at 1 rfl)) s) fun ocq6_4_2 => ?_
          refine TO.s rfl rfl rfl (StepS.buildS (us := [(2, .agg #[vq6_1_3]), (3, .agg #[vq6_3_3])]) (cs := [.slice none 0 0, .slice none 0 0, vq6_1_3, vq6_3_3]) rfl (by simp only [List.map_cons, List.map_nil, ocq6_4_1.2, ocq6_4_2.2] <;> rfl) (by kernel_rfl)) ?_
          refine TA.back (.inr (fun _ s => Sat.by [2] 1 2 (by kernel_rfl) s)) ?_
          refine TA.all1 (i := 5) (by kernel_rfl) ?_
          refine TB.of rfl ?_
          refine TO.alloc kinfo_69_bind_zero_some_agg_slice_none_0_0_slice_none_0_0_slice_none_0_0_slice_none_0_0 rfl rfl fun bq6_5_1 => ?_
          refine TA.back (.inr (fun _ s => Sat.by [3] 1 3 (by kernel_rfl) s)) ?_
          refine TA.asL (L' := (Bx bq6_5_1 69 [.slice none 0 0, .slice none 0 0, .slice none 0 0, .slice none 0 0] :: OwnS 3 1 vq6_1_3 (yq6_1_1.map cI) :: OwnS 3 1 vq6_3_3 (yq6_3_1.map cI) :: Bx b5 69 [.slice none 0 0, .slice none 0 0, .slice none 0 0, .slice none 0 0] :: L)) (listed' := #[true, true, true, true, true, true, false]) (by kernel_rfl) (by kernel_rfl) ?_
          refine TA.all1 (i := 6) (by kernel_rfl) ?_
          refine TB.of rfl ?_
          refine TO.pure (fun _ s => Rd.one (OwnS.rd (Ent.at 1 rfl)) s) fun ocq6_6_1 => ?_
          refine TO.pure (fun _ s => Rd.one (OwnS.rd (Ent.at 2 rfl)) s) fun ocq6_6_2 => ?_
          refine TO.stB (us := [.slice none 0 0, .slice none 0 0, vq6_1_3, vq6_3_3]) 0 [.slice none 0 0, .slice none 0 0, vq6_1_3, vq6_3_3] rfl rfl rfl ksizeB_69_4_true rfl rfl rfl (by intro u hu; simp only [List.mem_cons, List.not_mem_nil, or_false] at hu; rcases hu with rfl | rfl | rfl | rfl <;> first | exact ocq6_6_1.1 | exact ocq6_6_2.1 | rfl) rfl ?_
          refine TA.back (.inl (by kernel_rfl)) ?_
          refine TA.asL (L' := (Bx bq6_5_1 69 [.slice none 0 0, .slice none 0 0, vq6_1_3, vq6_3_3] :: OwnS 3 1 vq6_1_3 (yq6_1_1.map cI) :: OwnS 3 1 vq6_3_3 (yq6_3_1.map cI) :: Bx b5 69 [.slice none 0 0, .slice none 0 0, .slice none 0 0, .slice none 0 0] :: L)) (listed' := #[true, true, true, true, true, true, true]) (by kernel_rfl) (by kernel_rfl) ?_
          cases hj13
          refine TA.nil (by kernel_rfl) fun a w e s => ?_
          exact ⟨vq6_1_3, vq6_3_3, bq6_5_1, e.sub (lk_of_allIn ⟨rfl, rfl, rfl, rfl, trivial⟩), s.mono fun _ s => (by exact Sat.by [3, 1, 3, 3] 4 0 (by kernel_rfl) s)⟩
        · refine TB.of rfl ?_
          refine TO.alloc kinfo_69_bind_zero_some_agg_slice_none_0_0_slice_none_0_0_slice_none_0_0_slice_none_0_0 rfl rfl fun bq6_5_1 => ?_
          refine TA.back (.inr (fun _ s => Sat.by [3] 1 3 (by kernel_rfl) s)) ?_
          refine TA.asL (L' := (Bx bq6_5_1 69 [.slice none 0 0, .slice none 0 0, .slice none 0 0, .slice none 0 0] :: OwnS 3 1 vq6_1_3 (yq6_1_1.map cI) :: OwnS 3 1 vq6_3_3 (yq6_3_1.map cI) :: Bx b5 69 [.slice none 0 0, .slice none 0 0, .slice none 0 0, .slice none 0 0] :: L)) (listed' := #[true, true, true, true, false, true, false]) (by kernel_rfl) (by kernel_rfl) ?_
          refine TA.all1 (i := 4) (by kernel_rfl) ?_
          refine TB.of rfl ?_
          refine TO.pure (fun _ s => Rd.one (OwnS.rd (Ent.at 1 rfl)) s) fun ocq6_4_1 => ?_
          refine TO.pure (fun _ s => Rd.one (OwnS.rd (Ent.at 2 rfl)) s) fun ocq6_4_2 => ?_
          refine TO.s rfl rfl rfl (StepS.buildS (us := [(2, .agg #[vq6_1_3]), (3, .agg #[vq6_3_3])]) (cs := [.slice none 0 0, .slice none 0 0, vq6_1_3, vq6_3_3]) rfl (by simp only [List.map_cons, List.map_nil, ocq6_4_1.2, ocq6_4_2.2] <;> rfl) (by kernel_rfl)) ?_
          refine TA.back (.inr (fun _ s => Sat.by [3] 1 3 (by kernel_rfl) s)) ?_
          refine TA.all1 (i := 6) (by kernel_rfl) ?_
          refine TB.of rfl ?_
          refine TO.pure (fun _ s => Rd.one (OwnS.rd (Ent.at 1 rfl)) s) fun ocq6_6_1 => ?_
          refine TO.pure (fun _ s => Rd.one (OwnS.rd (Ent.at 2 rfl)) s) fun ocq6_6_2 => ?_
          refine TO.stB (us := [.slice none 0 0, .slice none 0 0, vq6_1_3, vq6_3_3]) 0 [.slice none 0 0, .slice none 0 0, vq6_1_3, vq6_3_3] rfl rfl rfl ksizeB_69_4_true rfl rfl rfl (by intro u hu; simp only [List.mem_cons, List.not_mem_nil, or_false] at hu; rcases hu with rfl | rfl | rfl | rfl <;> first | exact ocq6_6_1.1 | exact ocq6_6_2.1 | rfl) rfl ?_
          refine TA.back (.inl (by kernel_rfl)) ?_
          refine TA.asL (L' := (Bx bq6_5_1 69 [.slice none 0 0, .slice none 0 0, vq6_1_3, vq6_3_3] :: OwnS 3 1 vq6_1_3 (yq6_1_1.map cI) :: OwnS 3 1 vq6_3_3 (yq6_3_1.map cI) :: Bx b5 69 [.slice none 0 0, .slice none 0 0, .slice none 0 0, .slice none 0 0] :: L)) (listed' := #[true, true, true, true, true, true, true]) (by kernel_rfl) (by kernel_rfl) ?_
          cases hj13
          refine TA.nil (by kernel_rfl) fun a w e s => ?_
          exact ⟨vq6_1_3, vq6_3_3, bq6_5_1, e.sub (lk_of_allIn ⟨rfl, rfl, rfl, rfl, trivial⟩), s.mono fun _ s => (by exact Sat.by [3, 1, 3, 3] 4 0 (by kernel_rfl) s)⟩
      · refine TB.of rfl ?_
        refine TO.alloc kinfo_69_bind_zero_some_agg_slice_none_0_0_slice_none_0_0_slice_none_0_0_slice_none_0_0 rfl rfl fun bq6_5_1 => ?_
        refine TA.back (.inr (fun _ s => Sat.by [2] 1 2 (by kernel_rfl) s)) ?_
        refine TA.asL (L' := (Bx bq6_5_1 69 [.slice none 0 0, .slice none 0 0, .slice none 0 0, .slice none 0 0] :: OwnS 3 1 vq6_3_3 (yq6_3_1.map cI) :: Bx b5 69 [.slice none 0 0, .slice none 0 0, .slice none 0 0, .slice none 0 0] :: L)) (listed' := #[true, false, true, true, false, true, false]) (by kernel_rfl) (by kernel_rfl) ?_
        refine TA.all1 (i := 1) (by kernel_rfl) ?_
        refine TB.of rfl ?_
        refine TO.mkS (f := cI) (za := 0) kelemB_22_3_1_8_true kinfo_3_bind_zero_some_I_0 rfl (by decide) rfl rfl hkq6_1_2 rfl fun vq6_1_3 => ?_
        refine TA.back (.inr (fun _ s => Sat.by [3] 1 3 (by kernel_rfl) s)) ?_
        refine TA.asL (L' := (OwnS 3 1 vq6_1_3 (yq6_1_1.map cI) :: Bx bq6_5_1 69 [.slice none 0 0, .slice none 0 0, .slice none 0 0, .slice none 0 0] :: OwnS 3 1 vq6_3_3 (yq6_3_1.map cI) :: Bx b5 69 [.slice none 0 0, .slice none 0 0, .slice none 0 0, .slice none 0 0] :: L)) (listed' := #[true, true, true, true, false, true, false]) (by kernel_rfl) (by kernel_rfl) ?_
        refine TA.all1 (i := 4) (by kernel_rfl) ?_
        refine TB.of rfl ?_
        refine TO.pure (fun _ s => Rd.one (OwnS.rd (Ent.at 0 rfl)) s) fun ocq6_4_1 => ?_
        refine TO.pure (fun _ s => Rd.one (OwnS.rd (Ent.at 2 rfl)) s) fun ocq6_4_2 => ?_
        refine TO.s rfl rfl rfl (StepS.buildS (us := [(2, .agg #[vq6_1_3]), (3, .agg #[vq6_3_3])]) (cs := [.slice none 0 0, .slice none 0 0, vq6_1_3, vq6_3_3]) rfl (by simp only [List.map_cons, List.map_nil, ocq6_4_1.2, ocq6_4_2.2] <;> rfl) (by kernel_rfl)) ?_
        refine TA.back (.inr (fun _ s => Sat.by [3] 1 3 (by kernel_rfl) s)) ?_
        refine TA.all1 (i := 6) (by kernel_rfl) ?_
        refine TB.of rfl ?_
        refine TO.pure (fun _ s => Rd.one (OwnS.rd (Ent.at 0 rfl)) s) fun ocq6_6_1 => ?_
        refine TO.pure (fun _ s => Rd.one (OwnS.rd (Ent.at 2 rfl)) s) fun ocq6_6_2 => ?_
        refine TO.stB (us := [.slice none 0 0, .slice none 0 0, vq6_1_3, vq6_3_3]) 1 [.slice none 0 0, .slice none 0 0, vq6_1_3, vq6_3_3] rfl rfl rfl ksizeB_69_4_true rfl rfl rfl (by intro u hu; simp only [List.mem_cons, List.not_mem_nil, or_false] at hu; rcases hu with rfl | rfl | rfl | rfl <;> first | exact ocq6_6_1.1 | exact ocq6_6_2.1 | rfl) rfl ?_
        refine TA.back (.inl (by kernel_rfl)) ?_
        refine TA.asL (L' := (OwnS 3 1 vq6_1_3 (yq6_1_1.map cI) :: Bx bq6_5_1 69 [.slice none 0 0, .slice none 0 0, vq6_1_3, vq6_3_3] :: OwnS 3 1 vq6_3_3 (yq6_3_1.map cI) :: Bx b5 69 [.slice none 0 0, .slice none 0 0, .slice none 0 0, .slice none 0 0] :: L)) (listed' := #[true, true, true, true, true, true, true]) (by kernel_rfl) (by kernel_rfl) ?_
        cases hj13
        refine TA.nil (by kernel_rfl) fun a w e s => ?_
        exact ⟨vq6_1_3, vq6_3_3, bq6_5_1, e.sub (lk_of_allIn ⟨rfl, rfl, rfl, rfl, trivial⟩), s.mono fun _ s => (by exact Sat.by [3, 2, 3, 3] 4 0 (by kernel_rfl) s)⟩
    · refine TB.of rfl ?_
      refine TO.alloc kinfo_69_bind_zero_some_agg_slice_none_0_0_slice_none_0_0_slice_none_0_0_slice_none_0_0 rfl rfl fun bq6_5_1 => ?_
      refine TA.back (.inr (fun _ s => Sat.by [1] 1 1 (by kernel_rfl) s)) ?_
      refine TA.asL (L' := (Bx bq6_5_1 69 [.slice none 0 0, .slice none 0 0, .slice none 0 0, .slice none 0 0] :: Bx b5 69 [.slice none 0 0, .slice none 0 0, .slice none 0 0, .slice none 0 0] :: L)) (listed' := #[true, false, true, false, false, true, false]) (by kernel_rfl) (by kernel_rfl) ?_
      refine TA.all2 (i := 1) (j := 3) (by kernel_rfl) ?_ ?_
      · refine TB.of rfl ?_
        refine TO.mkS (f := cI) (za := 0) kelemB_22_3_1_8_true kinfo_3_bind_zero_some_I_0 rfl (by decide) rfl rfl hkq6_1_2 rfl fun vq6_1_3 => ?_
        refine TA.back (.inr (fun _ s => Sat.by [2] 1 2 (by kernel_rfl) s)) ?_
        refine TA.asL (L' := (OwnS 3 1 vq6_1_3 (yq6_1_1.map cI) :: Bx bq6_5_1 69 [.slice none 0 0, .slice none 0 0, .slice none 0 0, .slice none 0 0] :: Bx b5 69 [.slice none 0 0, .slice none 0 0, .slice none 0 0, .slice none 0 0] :: L)) (listed' := #[true, true, true, false, false, true, false]) (by kernel_rfl) (by kernel_rfl) ?_
        refine TA.all1 (i := 3) (by kernel_rfl) ?_
        refine TB.of rfl ?_
        refine TO.mkS (f := cI) (za := 0) kelemB_22_3_1_8_true kinfo_3_bind_zero_some_I_0 rfl (by decide) rfl rfl hkq6_3_2 rfl fun vq6_3_3 => ?_
        refine TA.back (.inr (fun _ s => Sat.by [3] 1 3 (by kernel_rfl) s)) ?_
        refine TA.asL (L' := (OwnS 3 1 vq6_3_3 (yq6_3_1.map cI) :: OwnS 3 1 vq6_1_3 (yq6_1_1.map cI) :: Bx bq6_5_1 69 [.slice none 0 0, .slice none 0 0, .slice none 0 0, .slice none 0 0] :: Bx b5 69 [.slice none 0 0, .slice none 0 0, .slice none 0 0, .slice none 0 0] :: L)) (listed' := #[true, true, true, true, false, true, false]) (by kernel_rfl) (by kernel_rfl) ?_
        refine TA.all1 (i := 4) (by kernel_rfl) ?_
        refine TB.of rfl ?_
        refine TO.pure (fun _ s => Rd.one (OwnS.rd (Ent.at 1 rfl)) s) fun ocq6_4_1 => ?_
        refine TO.pure (fun _ s => Rd.one (OwnS.rd (Ent.at 0 rfl)) s) fun ocq6_4_2 => ?_
        refine TO.s rfl rfl rfl (StepS.buildS (us := [(2, .agg #[vq6_1_3]), (3, .agg #[vq6_3_3])]) (cs := [.slice none 0 0, .slice none 0 0, vq6_1_3, vq6_3_3]) rfl (by simp only [List.map_cons, List.map_nil, ocq6_4_1.2, ocq6_4_2.2] <;> rfl) (by kernel_rfl)) ?_
        refine TA.back (.inr (fun _ s => Sat.by [3] 1 3 (by kernel_rfl) s)) ?_
        refine TA.all1 (i := 6) (by kernel_rfl) ?_
        refine TB.of rfl ?_
        refine TO.pure (fun _ s => Rd.one (OwnS.rd (Ent.at 1 rfl)) s) fun ocq6_6_1 => ?_
        refine TO.pure (fun _ s => Rd.one (OwnS.rd (Ent.at 0 rfl)) s) fun ocq6_6_2 => ?_
        refine TO.stB (us := [.slice none 0 0, .slice none 0 0, vq6_1_3, vq6_3_3]) 2 [.slice none 0 0, .slice none 0 0, vq6_1_3, vq6_3_3] rfl rfl rfl ksizeB_69_4_true rfl rfl rfl (by intro u hu; simp only [List.mem_cons, List.not_mem_nil, or_false] at hu; rcases hu with rfl | rfl | rfl | rfl <;> first | exact ocq6_6_1.1 | exact ocq6_6_2.1 | rfl) rfl ?_
        refine TA.back (.inl (by kernel_rfl)) ?_
        refine TA.asL (L' := (OwnS 3 1 vq6_3_3 (yq6_3_1.map cI) :: OwnS 3 1 vq6_1_3 (yq6_1_1.map cI) :: Bx bq6_5_1 69 [.slice none 0 0, .slice none 0 0, vq6_1_3, vq6_3_3] :: Bx b5 69 [.slice none 0 0, .slice none 0 0, .slice none 0 0, .slice none 0 0] :: L)) (listed' := #[true, true, true, true, true, true, true]) (by kernel_rfl) (by kernel_rfl) ?_
        cases hj13
        refine TA.nil (by kernel_rfl) fun a w e s => ?_
        exact ⟨vq6_1_3, vq6_3_3, bq6_5_1, e.sub (lk_of_allIn ⟨rfl, rfl, rfl, rfl, trivial⟩), s.mono fun _ s => (by exact Sat.by [3, 3, 2, 3] 4 0 (by kernel_rfl) s)⟩
      · refine TB.of rfl ?_
        refine TO.mkS (f := cI) (za := 0) kelemB_22_3_1_8_true kinfo_3_bind_zero_some_I_0 rfl (by decide) rfl rfl hkq6_3_2 rfl fun vq6_3_3 => ?_
        refine TA.back (.inr (fun _ s => Sat.by [2] 1 2 (by kernel_rfl) s)) ?_
        refine TA.asL (L' := (OwnS 3 1 vq6_3_3 (yq6_3_1.map cI) :: Bx bq6_5_1 69 [.slice none 0 0, .slice none 0 0, .slice none 0 0, .slice none 0 0] :: Bx b5 69 [.slice none 0 0, .slice none 0 0, .slice none 0 0, .slice none 0 0] :: L)) (listed' := #[true, false, true, true, false, true, false]) (by kernel_rfl) (by kernel_rfl) ?_
        refine TA.all1 (i := 1) (by kernel_rfl) ?_
        refine TB.of rfl ?_
        refine TO.mkS (f := cI) (za := 0) kelemB_22_3_1_8_true kinfo_3_bind_zero_some_I_0 rfl (by decide) rfl rfl hkq6_1_2 rfl fun vq6_1_3 => ?_
        refine TA.back (.inr (fun _ s => Sat.by [3] 1 3 (by kernel_rfl) s)) ?_
        refine TA.asL (L' := (OwnS 3 1 vq6_1_3 (yq6_1_1.map cI) :: OwnS 3 1 vq6_3_3 (yq6_3_1.map cI) :: Bx bq6_5_1 69 [.slice none 0 0, .slice none 0 0, .slice none 0 0, .slice none 0 0] :: Bx b5 69 [.slice none 0 0, .slice none 0 0, .slice none 0 0, .slice none 0 0] :: L)) (listed' := #[true, true, true, true, false, true, false]) (by kernel_rfl) (by kernel_rfl) ?_
        refine TA.all1 (i := 4) (by kernel_rfl) ?_
        refine TB.of rfl ?_
        refine TO.pure (fun _ s => Rd.one (OwnS.rd (Ent.at 0 rfl)) s) fun ocq6_4_1 => ?_
        refine TO.pure (fun _ s => Rd.one (OwnS.rd (Ent.at 1 rfl)) s) fun ocq6_4_2 => ?_
        refine TO.s rfl rfl rfl (StepS.buildS (us := [(2, .agg #[vq6_1_3]), (3, .agg #[vq6_3_3])]) (cs := [.slice none 0 0, .slice none 0 0, vq6_1_3, vq6_3_3]) rfl (by simp only [List.map_cons, List.map_nil, ocq6_4_1.2, ocq6_4_2.2] <;> rfl) (by kernel_rfl)) ?_
        refine TA.back (.inr (fun _ s => Sat.by [3] 1 3 (by kernel_rfl) s)) ?_
        refine TA.all1 (i := 6) (by kernel_rfl) ?_
        refine TB.of rfl ?_
        refine TO.pure (fun _ s => Rd.one (OwnS.rd (Ent.at 0 rfl)) s) fun ocq6_6_1 => ?_
        refine TO.pure (fun _ s => Rd.one (OwnS.rd (Ent.at 1 rfl)) s) fun ocq6_6_2 => ?_
        refine TO.stB (us := [.slice none 0 0, .slice none 0 0, vq6_1_3, vq6_3_3]) 2 [.slice none 0 0, .slice none 0 0, vq6_1_3, vq6_3_3] rfl rfl rfl ksizeB_69_4_true rfl rfl rfl (by intro u hu; simp only [List.mem_cons, List.not_mem_nil, or_false] at hu; rcases hu with rfl | rfl | rfl | rfl <;> first | exact ocq6_6_1.1 | exact ocq6_6_2.1 | rfl) rfl ?_
        refine TA.back (.inl (by kernel_rfl)) ?_
        refine TA.asL (L' := (OwnS 3 1 vq6_1_3 (yq6_1_1.map cI) :: OwnS 3 1 vq6_3_3 (yq6_3_1.map cI) :: Bx bq6_5_1 69 [.slice none 0 0, .slice none 0 0, vq6_1_3, vq6_3_3] :: Bx b5 69 [.slice none 0 0, .slice none 0 0, .slice none 0 0, .slice none 0 0] :: L)) (listed' := #[true, true, true, true, true, true, true]) (by kernel_rfl) (by kernel_rfl) ?_
        cases hj13
        refine TA.nil (by kernel_rfl) fun a w e s => ?_
        exact ⟨vq6_1_3, vq6_3_3, bq6_5_1, e.sub (lk_of_allIn ⟨rfl, rfl, rfl, rfl, trivial⟩), s⟩
  · intro a w ⟨v7, v10, bq6_5_1, he, hs⟩
    refine TC.use ?_ he hs
    refine TC.k ?_
    refine TC.region ?_
    refine TO.s rfl rfl rfl (StepS.move rfl) ?_
    obtain ⟨y14, hk15, hm⟩ := bind_some hm
    refine TO.mkS (f := cB) (za := false) kelemB_115_4_1_1_true kinfo_4_bind_zero_some_bool_false rfl (by decide) rfl rfl hk15 rfl fun v16 => ?_
    refine TO.s rfl rfl rfl (StepS.assign rfl) ?_
    refine TO.code ?_
    refine TC.k ?_
    refine TC.region ?_
    obtain ⟨y18, hk19, hm⟩ := bind_some hm
    refine TO.mkS (f := cI) (za := 0) kelemB_22_3_1_8_true kinfo_3_bind_zero_some_I_0 rfl (by decide) rfl rfl hk19 rfl fun v20 => ?_
    refine TO.s rfl rfl rfl (StepS.assign rfl) ?_
    refine TO.code ?_
    refine TC.k ?_
    refine TC.region ?_
    obtain ⟨y22, hk23, hm⟩ := bind_some hm
    refine TO.mkS (f := cTiiibi) (za := (0, 0, 0, false, 0)) kelemB_67_161_5_40_true kinfo_161_bind_zero_some_agg_I_0_I_0_I_0_bool_false_I_0 rfl (by decide) rfl rfl hk23 rfl fun v24 => ?_
    refine TO.s rfl rfl rfl (StepS.assign rfl) ?_
    refine TO.code ?_
    refine TC.k ?_
    refine TC.region ?_
    obtain ⟨y26, hk27, hm⟩ := bind_some hm
    refine TO.mkSS (ee := 3) (sz := 1) (f := cI) kelemB_50_22_1_24_true kinfo_22_bind_zero_some_slice_none_0_0 rfl rfl hk27 rfl fun v28 => ?_
    refine TO.s rfl rfl rfl (StepS.assign rfl) ?_
    refine TO.code ?_
    refine TC.k ?_
    refine TC.region ?_
    obtain ⟨y30, hk31, hm⟩ := bind_some hm
    refine TO.mkS (f := cI) (za := 0) kelemB_22_3_1_8_true kinfo_3_bind_zero_some_I_0 rfl (by decide) rfl rfl hk31 rfl fun v32 => ?_
    refine TO.s rfl rfl rfl (StepS.assign rfl) ?_
    refine TO.code ?_
    refine TC.k ?_
    refine TC.region ?_
    obtain ⟨y34, hk35, hm⟩ := bind_some hm
    refine TO.mkS (f := cI) (za := 0) kelemB_22_3_1_8_true kinfo_3_bind_zero_some_I_0 rfl (by decide) rfl rfl hk35 rfl fun v36 => ?_
    refine TO.s rfl rfl rfl (StepS.assign rfl) ?_
    refine TO.code ?_
    refine TC.k ?_
    refine TC.k ?_
    refine TC.region ?_
    refine TO.s rfl rfl rfl (StepS.move rfl) ?_
    refine TO.s rfl rfl rfl (StepS.lenm rfl e1.tl.tl.tl.tl.tl.tl.tl.tl.tl.tl ksliceB_23_106_4_true rfl) ?_
    refine TO.s rfl rfl rfl (StepS.move rfl) ?_
    refine TO.code ?_
    obtain ⟨o85, hw86, hm⟩ := bind_some hm
    refine TC.loop hw86 (fun (y40, y43, y44, y45, y46, y48, y49, y50, y51, y52, x53) => fun a w => ∃ v38 : Value, ∃ v41 : Value, ∃ hs47 : List Value, Mid 315 B [(0, I a0), (4, .pointer (some ⟨b5, 0, none⟩)), (5, .pointer (some ⟨bq6_5_1, 0, none⟩)), (6, v16), (7, v20), (8, v24), (9, v28), (10, v32), (11, v36), (29, h1), (30, I (a1.length : Int)), (31, I x53)] (OwnS 28 1 v38 (y40.map cI) :: OwnS 161 5 v41 (y43.map cTiiibi) :: OwnS 3 1 v36 (y44.map cI) :: OwnS 3 1 v32 (y45.map cI) :: SS 22 3 1 cI v28 hs47 (y46) :: OwnS 161 5 v24 (y48.map cTiiibi) :: OwnS 3 1 v20 (y49.map cI) :: OwnS 4 1 v16 (y50.map cB) :: OwnS 3 1 v7 (y51.map cI) :: OwnS 3 1 v10 (y52.map cI) :: Bx bq6_5_1 69 [v38, v41, v7, v10] :: Bx b5 69 [.slice none 0 0, .slice none 0 0, .slice none 0 0, .slice none 0 0] :: L) a w) (fun (y72, y75, y76, y77, y78, y80, y81, y82, y83, y84) => fun a w => ∃ v70 : Value, ∃ v73 : Value, ∃ hs79 : List Value, Mid 315 B [(4, .pointer (some ⟨b5, 0, none⟩)), (5, .pointer (some ⟨bq6_5_1, 0, none⟩))] (OwnS 28 1 v70 (y72.map cI) :: OwnS 161 5 v73 (y75.map cTiiibi) :: OwnS 3 1 v36 (y76.map cI) :: OwnS 3 1 v32 (y77.map cI) :: SS 22 3 1 cI v28 hs79 (y78) :: OwnS 161 5 v24 (y80.map cTiiibi) :: OwnS 3 1 v20 (y81.map cI) :: OwnS 4 1 v16 (y82.map cB) :: OwnS 3 1 v7 (y83.map cI) :: OwnS 3 1 v10 (y84.map cI) :: Bx bq6_5_1 69 [v70, v73, v7, v10] :: Bx b5 69 [.slice none 0 0, .slice none 0 0, .slice none 0 0, .slice none 0 0] :: L) a w) (fun (_ : Unit) _ _ => False) ?_ ?_ ?_ ?_
    · rintro ⟨y40, y43, y44, y45, y46, y48, y49, y50, y51, y52, x53⟩ o85r hb87 a w ⟨v38, v41, hs47, he, hs⟩
      dsimp only [F34_L0] at hb87
      refine TC.use ?_ he hs
      refine TC.k ?_
      refine TC.region ?_
      refine TO.s rfl rfl rfl (StepS.cmp rfl rfl rfl) ?_
      refine TO.code ?_
      refine TC.k ?_
      refine TC.cond rfl (fun hc88 => ?_) (fun hc88 => ?_)
      · replace hb87 := cond_t hc88 hb87
        refine TC.skipk ?_
        refine TC.k ?_
        refine TC.block ?_
        refine TC.k ?_
        refine TC.region ?_
        refine TO.s rfl rfl rfl (StepS.move rfl) ?_
        obtain ⟨x89, hx90, hb87⟩ := bind_some hb87
        refine TO.s rfl rfl rfl (StepS.idx rfl rfl e1.tl.tl.tl.tl.tl.tl.tl.tl.tl.tl.tl.tl ksliceB_23_106_4_true (idx_spec hx90).1 (idxm_lt hx90)) ?_
        refine TO.s rfl rfl rfl (StepS.ldE rfl e1.tl.tl.tl.tl.tl.tl.tl.tl.tl.tl.tl.tl kaggB_106_4_true rfl (idxm hx90)) ?_
        refine TO.alloc kinfo_106_bind_zero_some_agg_I_0_I_0_I_0_I_0 rfl rfl fun b91 => ?_
        refine TO.s rfl rfl rfl (StepS.assign rfl) ?_
        refine TO.stB (us := [I x89.1, I x89.2.1, I x89.2.2.1, I x89.2.2.2]) 0 [I x89.1, I x89.2.1, I x89.2.2.1, I x89.2.2.2] rfl rfl rfl ksizeB_106_4_true rfl rfl rfl (by simp [Value.oneCell']) rfl ?_
        refine TO.code ?_
        refine TC.k ?_
        refine TC.region ?_
        refine TO.s rfl rfl rfl (StepS.assign rfl) ?_
        refine TO.code ?_
        refine TC.k ?_
        refine TC.region ?_
        refine TO.s rfl rfl rfl (StepS.fld rfl kfieldB_106_1_1_true) ?_
        refine TO.s rfl rfl rfl (StepS.ldB rfl (Ent.at 0 rfl) kscalB_3_true rfl) ?_
        refine TO.s rfl rfl rfl (StepS.assign rfl) ?_
        refine TO.code ?_
        refine TC.k ?_
        refine TC.k ?_
        refine TC.region ?_
        refine TO.s rfl rfl rfl (StepS.fld rfl kfieldB_106_0_0_true) ?_
        refine TO.s rfl rfl rfl (StepS.ldB rfl (Ent.at 0 rfl) kscalB_3_true rfl) ?_
        refine TO.s rfl rfl rfl (StepS.cmp rfl rfl rfl) ?_
        refine TO.s rfl rfl rfl (StepS.move rfl) ?_
        refine TO.mid1 4 45 (.bool ((decide (x89.1 < 1)) || (decide (x89.1 > 3)))) ?_ ?_
        · refine bcase ((decide (x89.1 < 1))) (fun hb92 => ?_) (fun hb92 => ?_)
          · refine TO.skip rfl rfl rfl (skipT hb92) rfl rfl ?_
            refine TO.skip rfl rfl rfl (skipT hb92) rfl rfl ?_
            refine TO.skip rfl rfl rfl (skipT hb92) rfl rfl ?_
            refine TO.s rfl rfl rfl (StepS.pickT rfl hb92 rfl) ?_
            exact TO.up1 4 0 rfl rfl (by rw [hb92]; rfl) rfl
          · refine TO.sw rfl rfl rfl hb92 rfl rfl (StepS.fld rfl kfieldB_106_0_0_true) ?_
            refine TO.sw rfl rfl rfl hb92 rfl rfl (StepS.ldB rfl (Ent.at 0 rfl) kscalB_3_true rfl) ?_
            refine TO.sw rfl rfl rfl hb92 rfl rfl (StepS.cmp rfl rfl rfl) ?_
            refine TO.s rfl rfl rfl (StepS.pickF rfl hb92 rfl) ?_
            exact TO.up1 4 0 rfl rfl (by rw [hb92]; rfl) rfl
        refine TO.code ?_
        obtain ⟨⟨y93, y95, y96, y97, y99, y100, y101, y102, y103, x104⟩, hj105, hb87⟩ := bind_some hb87
        first | refine TC.cutM (fun a w => ∃ v94 : Value, ∃ hs98 : List Value, Mid 315 B [(0, I a0), (4, .pointer (some ⟨b5, 0, none⟩)), (5, .pointer (some ⟨bq6_5_1, 0, none⟩)), (6, v16), (7, v20), (8, v24), (9, v28), (10, v32), (11, v36), (14, I x104), (29, h1), (30, I (a1.length : Int)), (31, I x53)] (Bx b91 106 [I x89.1, I x89.2.1, I x89.2.2.1, I x89.2.2.2] :: OwnS 28 1 v38 (y40.map cI) :: OwnS 161 5 v94 (y93.map cTiiibi) :: OwnS 3 1 v36 (y95.map cI) :: OwnS 3 1 v32 (y96.map cI) :: SS 22 3 1 cI v28 hs98 (y97) :: OwnS 161 5 v24 (y99.map cTiiibi) :: OwnS 3 1 v20 (y100.map cI) :: OwnS 4 1 v16 (y101.map cB) :: OwnS 3 1 v7 (y102.map cI) :: OwnS 3 1 v10 (y103.map cI) :: Bx bq6_5_1 69 [v38, v94, v7, v10] :: Bx b5 69 [.slice none 0 0, .slice none 0 0, .slice none 0 0, .slice none 0 0] :: L) a w) ?_ ?_ | refine TC.cutX (fun a w => ∃ v94 : Value, ∃ hs98 : List Value, Mid 315 B [(0, I a0), (4, .pointer (some ⟨b5, 0, none⟩)), (5, .pointer (some ⟨bq6_5_1, 0, none⟩)), (6, v16), (7, v20), (8, v24), (9, v28), (10, v32), (11, v36), (14, I x104), (29, h1), (30, I (a1.length : Int)), (31, I x53)] (Bx b91 106 [I x89.1, I x89.2.1, I x89.2.2.1, I x89.2.2.2] :: OwnS 28 1 v38 (y40.map cI) :: OwnS 161 5 v94 (y93.map cTiiibi) :: OwnS 3 1 v36 (y95.map cI) :: OwnS 3 1 v32 (y96.map cI) :: SS 22 3 1 cI v28 hs98 (y97) :: OwnS 161 5 v24 (y99.map cTiiibi) :: OwnS 3 1 v20 (y100.map cI) :: OwnS 4 1 v16 (y101.map cB) :: OwnS 3 1 v7 (y102.map cI) :: OwnS 3 1 v10 (y103.map cI) :: Bx bq6_5_1 69 [v38, v94, v7, v10] :: Bx b5 69 [.slice none 0 0, .slice none 0 0, .slice none 0 0, .slice none 0 0] :: L) a w) ?_ ?_
        · refine TC.cond rfl (fun hc106 => ?_) (fun hc106 => ?_)
          · replace hj105 := cond_t hc106 hj105
            refine TC.region ?_
            refine TO.s rfl rfl rfl (StepS.assign rfl) ?_
            cases hj105
            refine TO.nil fun a w e s => ?_
            exact ⟨v41, hs47, e.sub (lk_of_allIn ⟨rfl, rfl, rfl, rfl, rfl, rfl, rfl, rfl, rfl, rfl, rfl, rfl, rfl, trivial⟩), s⟩
          · replace hj105 := cond_f hc106 hj105
            refine TC.k ?_
            refine TC.region ?_
            refine TO.s rfl rfl rfl (StepS.fld rfl kfieldB_106_0_0_true) ?_
            refine TO.s rfl rfl rfl (StepS.ldB rfl (Ent.at 0 rfl) kscalB_3_true rfl) ?_
            refine TO.s rfl rfl rfl (StepS.cmp rfl rfl rfl) ?_
            refine TO.s rfl rfl rfl (StepS.move rfl) ?_
            refine TO.mid1 7 56 (.bool ((x89.1 != 3) && ((decide (x89.2.1 < 0)) || (decide (x89.2.1 ≥ 6))))) ?_ ?_
            · refine bcase ((x89.1 != 3)) (fun hb107 => ?_) (fun hb107 => ?_)
              · refine TO.sw rfl rfl rfl hb107 rfl rfl (StepS.move rfl) ?_
                refine TO.sw rfl rfl rfl hb107 rfl rfl (StepS.cmp rfl rfl rfl) ?_
                refine TO.sw rfl rfl rfl hb107 rfl rfl (StepS.move rfl) ?_
                refine TO.mid1 3 55 (.bool ((decide (x89.2.1 < 0)) || (decide (x89.2.1 ≥ 6)))) ?_ ?_
                · refine bcase ((decide (x89.2.1 < 0))) (fun hb108 => ?_) (fun hb108 => ?_)
                  · refine TO.skip rfl rfl rfl (skipT hb108) rfl rfl ?_
                    refine TO.skip rfl rfl rfl (skipT hb108) rfl rfl ?_
                    refine TO.sw rfl rfl rfl hb107 rfl rfl (StepS.pickT rfl hb108 rfl) ?_
                    exact TO.up1 3 0 rfl rfl (by rw [hb108]; rfl) rfl
                  · refine TO.sw rfl rfl rfl hb108 rfl rfl (StepS.move rfl) ?_
                    refine TO.sw rfl rfl rfl hb108 rfl rfl (StepS.cmp rfl rfl rfl) ?_
                    refine TO.sw rfl rfl rfl hb107 rfl rfl (StepS.pickF rfl hb108 rfl) ?_
                    exact TO.up1 3 0 rfl rfl (by rw [hb108]; rfl) rfl
                refine TO.s rfl rfl rfl (StepS.pickT rfl hb107 rfl) ?_
                exact TO.up1 5 0 rfl rfl (by rw [hb107]; rfl) rfl
              · refine TO.skip rfl rfl rfl (skipF hb107) rfl rfl ?_
                refine TO.skip rfl rfl rfl (skipF hb107) rfl rfl ?_
                refine TO.skip rfl rfl rfl (skipF hb107) rfl rfl ?_
                refine TO.skip rfl rfl rfl skipU rfl rfl ?_
                refine TO.skip rfl rfl rfl skipU rfl rfl ?_
                refine TO.skip rfl rfl rfl (skipF hb107) rfl rfl ?_
                refine TO.s rfl rfl rfl (StepS.pickF rfl hb107 rfl) ?_
                exact TO.up1 7 0 rfl rfl (by rw [hb107]; rfl) rfl
            refine TO.s rfl rfl rfl (StepS.move rfl) ?_
            refine TO.mid1 15 72 (.bool (((x89.1 != 3) && ((decide (x89.2.1 < 0)) || (decide (x89.2.1 ≥ 6)))) || ((x89.1 != 1) && ((decide (x89.2.2.1 < 0)) || (decide (x89.2.2.1 ≥ a0)))))) ?_ ?_
            · refine bcase (((x89.1 != 3) && ((decide (x89.2.1 < 0)) || (decide (x89.2.1 ≥ 6))))) (fun hb109 => ?_) (fun hb109 => ?_)
              · refine TO.skip rfl rfl rfl (skipT hb109) rfl rfl ?_
                refine TO.skip rfl rfl rfl (skipT hb109) rfl rfl ?_
                refine TO.skip rfl rfl rfl (skipT hb109) rfl rfl ?_
                refine TO.skip rfl rfl rfl (skipT hb109) rfl rfl ?_
                refine TO.skip rfl rfl rfl skipU rfl rfl ?_
                refine TO.skip rfl rfl rfl skipU rfl rfl ?_
                refine TO.skip rfl rfl rfl skipU rfl rfl ?_
                refine TO.skip rfl rfl rfl skipU rfl rfl ?_
                refine TO.skip rfl rfl rfl skipU rfl rfl ?_
                refine TO.skip rfl rfl rfl skipU rfl rfl ?_
                refine TO.skip rfl rfl rfl skipU rfl rfl ?_
                refine TO.skip rfl rfl rfl skipU rfl rfl ?_
                refine TO.skip rfl rfl rfl skipU rfl rfl ?_
                refine TO.skip rfl rfl rfl (skipT hb109) rfl rfl ?_
                refine TO.s rfl rfl rfl (StepS.pickT rfl hb109 rfl) ?_
                exact TO.up1 15 0 rfl rfl (by rw [hb109]; rfl) rfl
              · refine TO.sw rfl rfl rfl hb109 rfl rfl (StepS.fld rfl kfieldB_106_0_0_true) ?_
                refine TO.sw rfl rfl rfl hb109 rfl rfl (StepS.ldB rfl (Ent.at 0 rfl) kscalB_3_true rfl) ?_
                refine TO.sw rfl rfl rfl hb109 rfl rfl (StepS.cmp rfl rfl rfl) ?_
                refine TO.sw rfl rfl rfl hb109 rfl rfl (StepS.move rfl) ?_
                refine TO.mid1 10 71 (.bool ((x89.1 != 1) && ((decide (x89.2.2.1 < 0)) || (decide (x89.2.2.1 ≥ a0))))) ?_ ?_
                · refine bcase ((x89.1 != 1)) (fun hb110 => ?_) (fun hb110 => ?_)
                  · refine TO.sw rfl rfl rfl hb110 rfl rfl (StepS.fld rfl kfieldB_106_2_2_true) ?_
                    refine TO.sw rfl rfl rfl hb110 rfl rfl (StepS.ldB rfl (Ent.at 0 rfl) kscalB_3_true rfl) ?_
                    refine TO.sw rfl rfl rfl hb110 rfl rfl (StepS.cmp rfl rfl rfl) ?_
                    refine TO.sw rfl rfl rfl hb110 rfl rfl (StepS.move rfl) ?_
                    refine TO.mid1 5 70 (.bool ((decide (x89.2.2.1 < 0)) || (decide (x89.2.2.1 ≥ a0)))) ?_ ?_
                    · refine bcase ((decide (x89.2.2.1 < 0))) (fun hb111 => ?_) (fun hb111 => ?_)
                      · refine TO.skip rfl rfl rfl (skipT hb111) rfl rfl ?_
                        refine TO.skip rfl rfl rfl (skipT hb111) rfl rfl ?_
                        refine TO.skip rfl rfl rfl (skipT hb111) rfl rfl ?_
                        refine TO.skip rfl rfl rfl (skipT hb111) rfl rfl ?_
                        refine TO.sw rfl rfl rfl hb110 rfl rfl (StepS.pickT rfl hb111 rfl) ?_
                        exact TO.up1 5 0 rfl rfl (by rw [hb111]; rfl) rfl
                      · refine TO.sw rfl rfl rfl hb111 rfl rfl (StepS.fld rfl kfieldB_106_2_2_true) ?_
                        refine TO.sw rfl rfl rfl hb111 rfl rfl (StepS.ldB rfl (Ent.at 0 rfl) kscalB_3_true rfl) ?_
                        refine TO.sw rfl rfl rfl hb111 rfl rfl (StepS.move rfl) ?_
                        refine TO.sw rfl rfl rfl hb111 rfl rfl (StepS.cmp rfl rfl rfl) ?_
                        refine TO.sw rfl rfl rfl hb110 rfl rfl (StepS.pickF rfl hb111 rfl) ?_
                        exact TO.up1 5 0 rfl rfl (by rw [hb111]; rfl) rfl
                    refine TO.sw rfl rfl rfl hb109 rfl rfl (StepS.pickT rfl hb110 rfl) ?_
                    exact TO.up1 6 0 rfl rfl (by rw [hb110]; rfl) rfl
                  · refine TO.skip rfl rfl rfl (skipF hb110) rfl rfl ?_
                    refine TO.skip rfl rfl rfl (skipF hb110) rfl rfl ?_
                    refine TO.skip rfl rfl rfl (skipF hb110) rfl rfl ?_
                    refine TO.skip rfl rfl rfl (skipF hb110) rfl rfl ?_
                    refine TO.skip rfl rfl rfl skipU rfl rfl ?_
                    refine TO.skip rfl rfl rfl skipU rfl rfl ?_
                    refine TO.skip rfl rfl rfl skipU rfl rfl ?_
                    refine TO.skip rfl rfl rfl skipU rfl rfl ?_
                    refine TO.skip rfl rfl rfl (skipF hb110) rfl rfl ?_
                    refine TO.sw rfl rfl rfl hb109 rfl rfl (StepS.pickF rfl hb110 rfl) ?_
                    exact TO.up1 10 0 rfl rfl (by rw [hb110]; rfl) rfl
                refine TO.s rfl rfl rfl (StepS.pickF rfl hb109 rfl) ?_
                exact TO.up1 6 0 rfl rfl (by rw [hb109]; rfl) rfl
            refine TO.code ?_
            refine TC.cond rfl (fun hc112 => ?_) (fun hc112 => ?_)
            · replace hj105 := cond_t hc112 hj105
              refine TC.region ?_
              refine TO.s rfl rfl rfl (StepS.assign rfl) ?_
              cases hj105
              refine TO.nil fun a w e s => ?_
              exact ⟨v41, hs47, e.sub (lk_of_allIn ⟨rfl, rfl, rfl, rfl, rfl, rfl, rfl, rfl, rfl, rfl, rfl, rfl, rfl, trivial⟩), s⟩
            · replace hj105 := cond_f hc112 hj105
              refine TC.k ?_
              refine TC.region ?_
              refine TO.s rfl rfl rfl (StepS.fld rfl kfieldB_106_0_0_true) ?_
              refine TO.s rfl rfl rfl (StepS.ldB rfl (Ent.at 0 rfl) kscalB_3_true rfl) ?_
              refine TO.s rfl rfl rfl (StepS.cmp rfl rfl rfl) ?_
              refine TO.code ?_
              refine TC.cond rfl (fun hc113 => ?_) (fun hc113 => ?_)
              · replace hj105 := cond_t hc113 hj105
                refine TC.k ?_
                refine TC.k ?_
                refine TC.region ?_
                refine TO.s rfl rfl rfl (StepS.move rfl) ?_
                refine TO.s rfl rfl rfl (StepS.fld rfl kfieldB_106_2_2_true) ?_
                refine TO.s rfl rfl rfl (StepS.ldB rfl (Ent.at 0 rfl) kscalB_3_true rfl) ?_
                obtain ⟨x114, hx115, hj105⟩ := bind_some hj105
                refine TO.s rfl rfl rfl (StepS.idx rfl rfl (OwnS.rd (Ent.at 8 rfl)) ksliceB_115_4_1_true (idx_spec hx115).1 (idxm_lt hx115)) ?_
                refine TO.s rfl rfl rfl (StepS.ld0 rfl (OwnS.rd (Ent.at 8 rfl)) kscalB_4_true rfl (idxm hx115) rfl) ?_
                refine TO.code ?_
                obtain ⟨x116, hj117, hj105⟩ := bind_some hj105
                first | refine TC.cutM (fun a w => Mid 315 B [(0, I a0), (4, .pointer (some ⟨b5, 0, none⟩)), (5, .pointer (some ⟨bq6_5_1, 0, none⟩)), (6, v16), (7, v20), (8, v24), (9, v28), (10, v32), (11, v36), (13, .pointer (some ⟨b91, 0, none⟩)), (14, I x116), (29, h1), (30, I (a1.length : Int)), (31, I x53)] (Bx b91 106 [I x89.1, I x89.2.1, I x89.2.2.1, I x89.2.2.2] :: OwnS 28 1 v38 (y40.map cI) :: OwnS 161 5 v41 (y43.map cTiiibi) :: OwnS 3 1 v36 (y44.map cI) :: OwnS 3 1 v32 (y45.map cI) :: SS 22 3 1 cI v28 hs47 (y46) :: OwnS 161 5 v24 (y48.map cTiiibi) :: OwnS 3 1 v20 (y49.map cI) :: OwnS 4 1 v16 (y50.map cB) :: OwnS 3 1 v7 (y51.map cI) :: OwnS 3 1 v10 (y52.map cI) :: Bx bq6_5_1 69 [v38, v41, v7, v10] :: Bx b5 69 [.slice none 0 0, .slice none 0 0, .slice none 0 0, .slice none 0 0] :: L) a w) ?_ ?_ | refine TC.cutX (fun a w => Mid 315 B [(0, I a0), (4, .pointer (some ⟨b5, 0, none⟩)), (5, .pointer (some ⟨bq6_5_1, 0, none⟩)), (6, v16), (7, v20), (8, v24), (9, v28), (10, v32), (11, v36), (13, .pointer (some ⟨b91, 0, none⟩)), (14, I x116), (29, h1), (30, I (a1.length : Int)), (31, I x53)] (Bx b91 106 [I x89.1, I x89.2.1, I x89.2.2.1, I x89.2.2.2] :: OwnS 28 1 v38 (y40.map cI) :: OwnS 161 5 v41 (y43.map cTiiibi) :: OwnS 3 1 v36 (y44.map cI) :: OwnS 3 1 v32 (y45.map cI) :: SS 22 3 1 cI v28 hs47 (y46) :: OwnS 161 5 v24 (y48.map cTiiibi) :: OwnS 3 1 v20 (y49.map cI) :: OwnS 4 1 v16 (y50.map cB) :: OwnS 3 1 v7 (y51.map cI) :: OwnS 3 1 v10 (y52.map cI) :: Bx bq6_5_1 69 [v38, v41, v7, v10] :: Bx b5 69 [.slice none 0 0, .slice none 0 0, .slice none 0 0, .slice none 0 0] :: L) a w) ?_ ?_
                · refine TC.cond rfl (fun hc118 => ?_) (fun hc118 => ?_)
                  · replace hj117 := cond_t hc118 hj117
                    refine TC.region ?_
                    refine TO.s rfl rfl rfl (StepS.assign rfl) ?_
                    cases hj117
                    refine TO.nil fun a w e s => ?_
                    exact ⟨e.sub (lk_of_allIn ⟨rfl, rfl, rfl, rfl, rfl, rfl, rfl, rfl, rfl, rfl, rfl, rfl, rfl, rfl, trivial⟩), s⟩
                  · replace hj117 := cond_f hc118 hj117
                    cases hj117
                    refine TC.skip fun a w e s => ?_
                    exact ⟨e.sub (lk_of_allIn ⟨rfl, rfl, rfl, rfl, rfl, rfl, rfl, rfl, rfl, rfl, rfl, rfl, rfl, rfl, trivial⟩), s⟩
                · intro a w ⟨he, hs⟩
                  refine TC.use ?_ he hs
                  refine TC.region ?_
                  refine TO.s rfl rfl rfl (StepS.move rfl) ?_
                  refine TO.s rfl rfl rfl (StepS.fld rfl kfieldB_106_2_2_true) ?_
                  refine TO.s rfl rfl rfl (StepS.ldB rfl (Ent.at 0 rfl) kscalB_3_true rfl) ?_
                  obtain ⟨x119, hx120, hj105⟩ := bind_some hj105
                  refine TO.s rfl rfl rfl (StepS.idx rfl rfl (OwnS.rd (Ent.at 8 rfl)) ksliceB_115_4_1_true (idx_spec hx120).1 (idxm_lt hx120)) ?_
                  refine TO.stO (i := x89.2.2.1.toNat) (off := 0) (us := [.bool true]) 8 true rfl rfl rfl ksizeB_4_1_true rfl rfl rfl (idx_spec hx120).2 rfl (by simp [Value.oneCell']) rfl ?_
                  cases hj105
                  refine TO.nil fun a w e s => ?_
                  exact ⟨v41, hs47, e.sub (lk_of_allIn ⟨rfl, rfl, rfl, rfl, rfl, rfl, rfl, rfl, rfl, rfl, rfl, rfl, rfl, trivial⟩), s⟩
              · replace hj105 := cond_f hc113 hj105
                refine TC.k ?_
                refine TC.region ?_
                refine TO.s rfl rfl rfl (StepS.fld rfl kfieldB_106_0_0_true) ?_
                refine TO.s rfl rfl rfl (StepS.ldB rfl (Ent.at 0 rfl) kscalB_3_true rfl) ?_
                refine TO.s rfl rfl rfl (StepS.cmp rfl rfl rfl) ?_
                refine TO.s rfl rfl rfl (StepS.move rfl) ?_
                obtain ⟨b122, hj123, hj105⟩ := bind_some hj105
                refine TO.mid1 6 94 (.bool b122) ?_ ?_
                · refine bcase ((x89.1 == 1)) (fun hb121 => ?_) (fun hb121 => ?_)
                  · replace hj123 := cond_t hb121 hj123
                    refine TO.sw rfl rfl rfl hb121 rfl rfl (StepS.move rfl) ?_
                    refine TO.sw rfl rfl rfl hb121 rfl rfl (StepS.move rfl) ?_
                    obtain ⟨x124, hx125, hj123⟩ := bind_some hj123
                    refine TO.sw rfl rfl rfl hb121 rfl rfl (StepS.idx rfl rfl (OwnS.rd (Ent.at 7 rfl)) ksliceB_22_3_1_true (idx_spec hx125).1 (idxm_lt hx125)) ?_
                    refine TO.sw rfl rfl rfl hb121 rfl rfl (StepS.ld0 rfl (OwnS.rd (Ent.at 7 rfl)) kscalB_3_true rfl (idxm hx125) rfl) ?_
                    refine TO.sw rfl rfl rfl hb121 rfl rfl (StepS.cmp rfl rfl rfl) ?_
                    cases hj123
                    refine TO.s rfl rfl rfl (StepS.pickT rfl hb121 rfl) ?_
                    exact TO.up1 6 0 rfl rfl rfl rfl
                  · replace hj123 := cond_f hb121 hj123
                    cases hj123
                    refine TO.skip rfl rfl rfl (skipF hb121) rfl rfl ?_
                    refine TO.skip rfl rfl rfl (skipF hb121) rfl rfl ?_
                    refine TO.skip rfl rfl rfl (skipF hb121) rfl rfl ?_
                    refine TO.skip rfl rfl rfl (skipF hb121) rfl rfl ?_
                    refine TO.skip rfl rfl rfl (skipF hb121) rfl rfl ?_
                    refine TO.s rfl rfl rfl (StepS.pickF rfl hb121 rfl) ?_
                    exact TO.up1 6 0 rfl rfl rfl rfl
                refine TO.s rfl rfl rfl (StepS.move rfl) ?_
                obtain ⟨b127, hj128, hj105⟩ := bind_some hj105
                refine TO.mid1 11 106 (.bool b127) ?_ ?_
                · refine bcase (b122) (fun hb126 => ?_) (fun hb126 => ?_)
                  · replace hj128 := cond_t hb126 hj128
                    cases hj128
                    refine TO.skip rfl rfl rfl (skipT hb126) rfl rfl ?_
                    refine TO.skip rfl rfl rfl (skipT hb126) rfl rfl ?_
                    refine TO.skip rfl rfl rfl (skipT hb126) rfl rfl ?_
                    refine TO.skip rfl rfl rfl (skipT hb126) rfl rfl ?_
                    refine TO.skip rfl rfl rfl skipU rfl rfl ?_
                    refine TO.skip rfl rfl rfl skipU rfl rfl ?_
                    refine TO.skip rfl rfl rfl skipU rfl rfl ?_
                    refine TO.skip rfl rfl rfl skipU rfl rfl ?_
                    refine TO.skip rfl rfl rfl skipU rfl rfl ?_
                    refine TO.skip rfl rfl rfl (skipT hb126) rfl rfl ?_
                    refine TO.s rfl rfl rfl (StepS.pickT rfl hb126 rfl) ?_
                    exact TO.up1 11 0 rfl rfl rfl rfl
                  · replace hj128 := cond_f hb126 hj128
                    refine TO.sw rfl rfl rfl hb126 rfl rfl (StepS.fld rfl kfieldB_106_0_0_true) ?_
                    refine TO.sw rfl rfl rfl hb126 rfl rfl (StepS.ldB rfl (Ent.at 0 rfl) kscalB_3_true rfl) ?_
                    refine TO.sw rfl rfl rfl hb126 rfl rfl (StepS.cmp rfl rfl rfl) ?_
                    refine TO.sw rfl rfl rfl hb126 rfl rfl (StepS.move rfl) ?_
                    obtain ⟨b130, hj131, hj128⟩ := bind_some hj128
                    refine TO.mid1 6 105 (.bool b130) ?_ ?_
                    · refine bcase ((x89.1 == 2)) (fun hb129 => ?_) (fun hb129 => ?_)
                      · replace hj131 := cond_t hb129 hj131
                        refine TO.sw rfl rfl rfl hb129 rfl rfl (StepS.move rfl) ?_
                        refine TO.sw rfl rfl rfl hb129 rfl rfl (StepS.move rfl) ?_
                        obtain ⟨x132, hx133, hj131⟩ := bind_some hj131
                        refine TO.sw rfl rfl rfl hb129 rfl rfl (StepS.idx rfl rfl (OwnS.rd (Ent.at 7 rfl)) ksliceB_22_3_1_true (idx_spec hx133).1 (idxm_lt hx133)) ?_
                        refine TO.sw rfl rfl rfl hb129 rfl rfl (StepS.ld0 rfl (OwnS.rd (Ent.at 7 rfl)) kscalB_3_true rfl (idxm hx133) rfl) ?_
                        refine TO.sw rfl rfl rfl hb129 rfl rfl (StepS.cmp rfl rfl rfl) ?_
                        cases hj131
                        refine TO.sw rfl rfl rfl hb126 rfl rfl (StepS.pickT rfl hb129 rfl) ?_
                        exact TO.up1 6 0 rfl rfl rfl rfl
                      · replace hj131 := cond_f hb129 hj131
                        cases hj131
                        refine TO.skip rfl rfl rfl (skipF hb129) rfl rfl ?_
                        refine TO.skip rfl rfl rfl (skipF hb129) rfl rfl ?_
                        refine TO.skip rfl rfl rfl (skipF hb129) rfl rfl ?_
                        refine TO.skip rfl rfl rfl (skipF hb129) rfl rfl ?_
                        refine TO.skip rfl rfl rfl (skipF hb129) rfl rfl ?_
                        refine TO.sw rfl rfl rfl hb126 rfl rfl (StepS.pickF rfl hb129 rfl) ?_
                        exact TO.up1 6 0 rfl rfl rfl rfl
                    cases hj128
                    refine TO.s rfl rfl rfl (StepS.pickF rfl hb126 rfl) ?_
                    exact TO.up1 6 0 rfl rfl rfl rfl
                refine TO.code ?_
                refine TC.cond rfl (fun hc134 => ?_) (fun hc134 => ?_)
                · replace hj105 := cond_t hc134 hj105
                  refine TC.region ?_
                  refine TO.s rfl rfl rfl (StepS.assign rfl) ?_
                  cases hj105
                  refine TO.nil fun a w e s => ?_
                  exact ⟨v41, hs47, e.sub (lk_of_allIn ⟨rfl, rfl, rfl, rfl, rfl, rfl, rfl, rfl, rfl, rfl, rfl, rfl, rfl, trivial⟩), s⟩
                · replace hj105 := cond_f hc134 hj105
                  refine TC.k ?_
                  refine TC.region ?_
                  refine TO.s rfl rfl rfl (StepS.fld rfl kfieldB_106_0_0_true) ?_
                  refine TO.s rfl rfl rfl (StepS.ldB rfl (Ent.at 0 rfl) kscalB_3_true rfl) ?_
                  refine TO.s rfl rfl rfl (StepS.cmp rfl rfl rfl) ?_
                  refine TO.code ?_
                  refine TC.cond rfl (fun hc135 => ?_) (fun hc135 => ?_)
                  · replace hj105 := cond_t hc135 hj105
                    refine TC.k ?_
                    refine TC.region ?_
                    refine TO.s rfl rfl rfl (StepS.move rfl) ?_
                    refine TO.s rfl rfl rfl (StepS.move rfl) ?_
                    obtain ⟨x136, hx137, hj105⟩ := bind_some hj105
                    refine TO.s rfl rfl rfl (StepS.idx rfl rfl (OwnS.rd (Ent.at 7 rfl)) ksliceB_22_3_1_true (idx_spec hx137).1 (idxm_lt hx137)) ?_
                    refine TO.stO (i := x89.2.1.toNat) (off := 0) (us := [I 1]) 7 1 rfl rfl rfl ksizeB_3_1_true rfl rfl rfl (idx_spec hx137).2 rfl (by simp [Value.oneCell']) rfl ?_
                    refine TO.code ?_
                    refine TC.k ?_
                    refine TC.region ?_
                    refine TO.s rfl rfl rfl (StepS.move rfl) ?_
                    refine TO.s rfl rfl rfl (StepS.move rfl) ?_
                    obtain ⟨x138, hx139, hj105⟩ := bind_some hj105
                    refine TO.s rfl rfl rfl (StepS.idxRR rfl rfl (SS.rr (Ent.at 5 rfl)) ksliceB_50_22_1_true hx139) ?_
                    refine TO.ghost (fun _ => Sat.nilS (e := 3) (sz := 1) (f := cI)) ?_
                    refine TO.ghost (fun _ s => Sat.front 6 rfl s) ?_
                    refine TO.stRow (xs := ([] : List (Int))) rfl rfl hx139 ksizeB_22_1_true ?_
                    refine TO.code ?_
                    refine TC.k ?_
                    refine TC.region ?_
                    refine TO.s rfl rfl rfl (StepS.move rfl) ?_
                    refine TO.s rfl rfl rfl (StepS.move rfl) ?_
                    obtain ⟨x141, hx142, hj105⟩ := bind_some hj105
                    refine TO.s rfl rfl rfl (StepS.idx rfl rfl (OwnS.rd (Ent.at 5 rfl)) ksliceB_22_3_1_true (idx_spec hx142).1 (idxm_lt hx142)) ?_
                    refine TO.stO (i := x89.2.1.toNat) (off := 0) (us := [I 0]) 5 0 rfl rfl rfl ksizeB_3_1_true rfl rfl rfl (idx_spec hx142).2 rfl (by simp [Value.oneCell']) rfl ?_
                    refine TO.code ?_
                    refine TC.k ?_
                    refine TC.region ?_
                    refine TO.s rfl rfl rfl (StepS.move rfl) ?_
                    refine TO.s rfl rfl rfl (StepS.move rfl) ?_
                    obtain ⟨x143, hx144, hj105⟩ := bind_some hj105
                    refine TO.s rfl rfl rfl (StepS.idx rfl rfl (OwnS.rd (Ent.at 4 rfl)) ksliceB_22_3_1_true (idx_spec hx144).1 (idxm_lt hx144)) ?_
                    refine TO.stO (i := x89.2.1.toNat) (off := 0) (us := [I 0]) 4 0 rfl rfl rfl ksizeB_3_1_true rfl rfl rfl (idx_spec hx144).2 rfl (by simp [Value.oneCell']) rfl ?_
                    refine TO.code ?_
                    refine TC.k ?_
                    refine TC.region ?_
                    refine TO.s rfl rfl rfl (StepS.move rfl) ?_
                    refine TO.s rfl rfl rfl (StepS.move rfl) ?_
                    refine TO.s rfl rfl rfl (StepS.move rfl) ?_
                    refine TO.s rfl rfl rfl (StepS.move rfl) ?_
                    refine TO.s rfl rfl rfl (StepS.fld rfl kfieldB_106_3_3_true) ?_
                    refine TO.s rfl rfl rfl (StepS.ldB rfl (Ent.at 1 rfl) kscalB_3_true rfl) ?_
                    refine TO.s rfl rfl rfl (StepS.cmp rfl rfl rfl) ?_
                    refine TO.s rfl rfl rfl (StepS.build (cs := [I x89.2.1, I x53, I 0, .bool (decide (x89.2.2.2 ≥ 0)), I 0]) rfl (by kernel_rfl)) ?_
                    obtain ⟨x145, hx146, hj105⟩ := bind_some hj105
                    refine TO.s rfl rfl rfl (StepS.idx rfl rfl (OwnS.rd (Ent.at 6 rfl)) ksliceB_67_161_5_true (idx_spec hx146).1 (idxm_lt hx146)) ?_
                    refine TO.stO (i := x89.2.1.toNat) (off := 0) (us := [I x89.2.1, I x53, I 0, .bool (decide (x89.2.2.2 ≥ 0)), I 0]) 6 (x89.2.1, x53, 0, (decide (x89.2.2.2 ≥ 0)), 0) rfl rfl rfl ksizeB_161_5_true rfl rfl rfl (idx_spec hx146).2 rfl (by simp [Value.oneCell']) rfl ?_
                    refine TO.code ?_
                    refine TC.k ?_
                    refine TC.region ?_
                    refine TO.s rfl rfl rfl (StepS.fld rfl kfieldB_106_3_3_true) ?_
                    refine TO.s rfl rfl rfl (StepS.ldB rfl (Ent.at 1 rfl) kscalB_3_true rfl) ?_
                    refine TO.s rfl rfl rfl (StepS.cmp rfl rfl rfl) ?_
                    refine TO.code ?_
                    refine TC.cond rfl (fun hc147 => ?_) (fun hc147 => ?_)
                    · replace hj105 := cond_t hc147 hj105
                      refine TC.region ?_
                      refine TO.s rfl rfl rfl (StepS.move rfl) ?_
                      refine TO.s rfl rfl rfl (StepS.move rfl) ?_
                      refine TO.s rfl rfl rfl (StepS.fld rfl kfieldB_106_3_3_true) ?_
                      refine TO.s rfl rfl rfl (StepS.ldB rfl (Ent.at 1 rfl) kscalB_3_true rfl) ?_
                      obtain ⟨x148, hx149, hj105⟩ := bind_some hj105
                      refine TO.s rfl rfl rfl (StepS.idx rfl rfl (OwnS.rd (Ent.at 6 rfl)) ksliceB_67_161_5_true (idx_spec hx149).1 (idxm_lt hx149)) ?_
                      refine TO.s rfl rfl rfl (StepS.ptrf rfl kfieldB_161_4_4_true) ?_
                      refine TO.stO (i := x89.2.1.toNat) (off := 4) (us := [I x89.2.2.2]) 6 (x148.1, x148.2.1, x148.2.2.1, x148.2.2.2.1, x89.2.2.2) rfl rfl rfl ksizeB_3_1_true rfl rfl rfl (idx_spec hx149).2 rfl (by simp [Value.oneCell']) rfl ?_
                      cases hj105
                      refine TO.nil fun a w e s => ?_
                      exact ⟨v41, (hs47.set x89.2.1.toNat (.slice none 0 0)), e.sub (lk_of_allIn ⟨rfl, rfl, rfl, rfl, rfl, rfl, rfl, rfl, rfl, rfl, rfl, rfl, rfl, trivial⟩), s.mono fun _ s => (by exact Sat.by [12, 12, 12, 12, 12, 12, 12, 7, 12, 12, 12, 12, 12] 13 0 (by kernel_rfl) s)⟩
                    · replace hj105 := cond_f hc147 hj105
                      cases hj105
                      refine TC.skip fun a w e s => ?_
                      exact ⟨v41, (hs47.set x89.2.1.toNat (.slice none 0 0)), e.sub (lk_of_allIn ⟨rfl, rfl, rfl, rfl, rfl, rfl, rfl, rfl, rfl, rfl, rfl, rfl, rfl, trivial⟩), s.mono fun _ s => (by exact Sat.by [12, 12, 12, 12, 12, 12, 12, 7, 12, 12, 12, 12, 12] 13 0 (by kernel_rfl) s)⟩
                  · replace hj105 := cond_f hc135 hj105
                    refine TC.k ?_
                    refine TC.region_quiet kfollows_mixedOrders_true (by kernel_rfl) ?_
                    refine TQ.s rfl rfl rfl (StepS.move rfl).q ?_
                    refine TQ.s rfl rfl rfl (StepS.move rfl).q ?_
                    obtain ⟨x150, hx151, hj105⟩ := bind_some hj105
                    refine TQ.s rfl rfl rfl (StepS.idxRR rfl rfl (SS.rr (Ent.at 5 rfl)) ksliceB_50_22_1_true hx151).q ?_
                    refine TQ.s rfl rfl rfl (StepS.ldRR rfl (SS.rr (Ent.at 5 rfl)) kscalB_22_true hx151).q ?_
                    refine TQ.s rfl rfl rfl (StepS.fld rfl kfieldB_106_2_2_true).q ?_
                    refine TQ.s rfl rfl rfl (StepS.ldB rfl (Ent.at 0 rfl) kscalB_3_true rfl).q ?_
                    obtain ⟨r153, hc154, hj105⟩ := bind_some hj105
                    refine TQ.s rfl rfl rfl (StepQ.call kcallB_66_true rfl rfl (fun _ st => C66 (RR.row (SS.rr (Ent.at 5 rfl)) hx151) hc154 st)) ?_
                    refine TQ.code ?_
                    refine TC.cond rfl (fun hc155 => ?_) (fun hc155 => ?_)
                    · replace hj105 := cond_t hc155 hj105
                      refine TC.region ?_
                      refine TO.s rfl rfl rfl (StepS.assign rfl) ?_
                      cases hj105
                      refine TO.nil fun a w e s => ?_
                      exact ⟨v41, hs47, e.sub (lk_of_allIn ⟨rfl, rfl, rfl, rfl, rfl, rfl, rfl, rfl, rfl, rfl, rfl, rfl, rfl, trivial⟩), s⟩
                    · replace hj105 := cond_f hc155 hj105
                      refine TC.k ?_
                      refine TC.region ?_
                      refine TO.s rfl rfl rfl (StepS.move rfl) ?_
                      refine TO.s rfl rfl rfl (StepS.fld rfl kfieldB_106_2_2_true) ?_
                      refine TO.s rfl rfl rfl (StepS.ldB rfl (Ent.at 0 rfl) kscalB_3_true rfl) ?_
                      obtain ⟨x156, hx157, hj105⟩ := bind_some hj105
                      refine TO.s rfl rfl rfl (StepS.idx rfl rfl (OwnS.rd (Ent.at 8 rfl)) ksliceB_115_4_1_true (idx_spec hx157).1 (idxm_lt hx157)) ?_
                      refine TO.s rfl rfl rfl (StepS.ld0 rfl (OwnS.rd (Ent.at 8 rfl)) kscalB_4_true rfl (idxm hx157) rfl) ?_
                      refine TO.code ?_
                      refine TC.cond rfl (fun hc158 => ?_) (fun hc158 => ?_)
                      · replace hj105 := cond_t hc158 hj105
                        refine TC.region ?_
                        refine TO.s rfl rfl rfl (StepS.assign rfl) ?_
                        cases hj105
                        refine TO.nil fun a w e s => ?_
                        exact ⟨v41, hs47, e.sub (lk_of_allIn ⟨rfl, rfl, rfl, rfl, rfl, rfl, rfl, rfl, rfl, rfl, rfl, rfl, rfl, trivial⟩), s⟩
                      · replace hj105 := cond_f hc158 hj105
                        refine TC.k ?_
                        obtain ⟨y160, hj162, hj105⟩ := bind_some hj105
                        first | refine TC.cutM (fun a w => ∃ hs161 : List Value, Mid 315 B [(0, I a0), (4, .pointer (some ⟨b5, 0, none⟩)), (5, .pointer (some ⟨bq6_5_1, 0, none⟩)), (6, v16), (7, v20), (8, v24), (9, v28), (10, v32), (11, v36), (12, I x53), (13, .pointer (some ⟨b91, 0, none⟩)), (14, I 0), (15, I x89.2.1), (29, h1), (30, I (a1.length : Int)), (31, I x53)] (Bx b91 106 [I x89.1, I x89.2.1, I x89.2.2.1, I x89.2.2.2] :: OwnS 28 1 v38 (y40.map cI) :: OwnS 161 5 v41 (y43.map cTiiibi) :: OwnS 3 1 v36 (y44.map cI) :: OwnS 3 1 v32 (y45.map cI) :: SS 22 3 1 cI v28 hs161 (y160) :: OwnS 161 5 v24 (y48.map cTiiibi) :: OwnS 3 1 v20 (y49.map cI) :: OwnS 4 1 v16 (y50.map cB) :: OwnS 3 1 v7 (y51.map cI) :: OwnS 3 1 v10 (y52.map cI) :: Bx bq6_5_1 69 [v38, v41, v7, v10] :: Bx b5 69 [.slice none 0 0, .slice none 0 0, .slice none 0 0, .slice none 0 0] :: L) a w) ?_ ?_ | refine TC.cutX (fun a w => ∃ hs161 : List Value, Mid 315 B [(0, I a0), (4, .pointer (some ⟨b5, 0, none⟩)), (5, .pointer (some ⟨bq6_5_1, 0, none⟩)), (6, v16), (7, v20), (8, v24), (9, v28), (10, v32), (11, v36), (12, I x53), (13, .pointer (some ⟨b91, 0, none⟩)), (14, I 0), (15, I x89.2.1), (29, h1), (30, I (a1.length : Int)), (31, I x53)] (Bx b91 106 [I x89.1, I x89.2.1, I x89.2.2.1, I x89.2.2.2] :: OwnS 28 1 v38 (y40.map cI) :: OwnS 161 5 v41 (y43.map cTiiibi) :: OwnS 3 1 v36 (y44.map cI) :: OwnS 3 1 v32 (y45.map cI) :: SS 22 3 1 cI v28 hs161 (y160) :: OwnS 161 5 v24 (y48.map cTiiibi) :: OwnS 3 1 v20 (y49.map cI) :: OwnS 4 1 v16 (y50.map cB) :: OwnS 3 1 v7 (y51.map cI) :: OwnS 3 1 v10 (y52.map cI) :: Bx bq6_5_1 69 [v38, v41, v7, v10] :: Bx b5 69 [.slice none 0 0, .slice none 0 0, .slice none 0 0, .slice none 0 0] :: L) a w) ?_ ?_
                        · obtain ⟨xq159_4_1, hxq159_4_2, hj162⟩ := bind_some hj162
                          obtain ⟨yq159_9_2, hkq159_9_3, hj162⟩ := bind_some hj162
                          obtain ⟨xq159_10_1, hxq159_10_2, hj162⟩ := bind_some hj162
                          refine TC.region_any (Bx b91 106 [I x89.1, I x89.2.1, I x89.2.2.1, I x89.2.2.2] :: OwnS 28 1 v38 (y40.map cI) :: OwnS 161 5 v41 (y43.map cTiiibi) :: OwnS 3 1 v36 (y44.map cI) :: OwnS 3 1 v32 (y45.map cI) :: OwnS 161 5 v24 (y48.map cTiiibi) :: OwnS 3 1 v20 (y49.map cI) :: OwnS 4 1 v16 (y50.map cB) :: OwnS 3 1 v7 (y51.map cI) :: OwnS 3 1 v10 (y52.map cI) :: Bx bq6_5_1 69 [v38, v41, v7, v10] :: Bx b5 69 [.slice none 0 0, .slice none 0 0, .slice none 0 0, .slice none 0 0] :: L) 11 12 kfollows_mixedOrders_true rfl ?_
                          refine TA.takeW 0 rfl rfl rfl rfl (StepS.move rfl) (by kernel_rfl) (by kernel_rfl) (by kernel_rfl) rfl (.inr (fun _ s => Sat.by [12, 12, 12, 12, 12, 12, 12, 11, 11, 11, 11, 11] 12 1 (by kernel_rfl) s)) ?_
                          refine TA.takeW 1 rfl rfl rfl rfl (StepS.move rfl) (by kernel_rfl) (by kernel_rfl) (by kernel_rfl) rfl (.inr (fun _ s => Sat.by [12, 12, 12, 12, 12, 12, 12, 11, 11, 11, 11, 11] 12 1 (by kernel_rfl) s)) ?_
                          refine TA.takeW 2 rfl rfl rfl rfl (StepS.move rfl) (by kernel_rfl) (by kernel_rfl) (by kernel_rfl) rfl (.inr (fun _ s => Sat.by [12, 12, 12, 12, 12, 12, 12, 11, 11, 11, 11, 11] 12 1 (by kernel_rfl) s)) ?_
                          refine TA.takeW 3 rfl rfl rfl rfl (StepS.move rfl) (by kernel_rfl) (by kernel_rfl) (by kernel_rfl) rfl (.inr (fun _ s => Sat.by [12, 12, 12, 12, 12, 12, 12, 11, 11, 11, 11, 11] 12 1 (by kernel_rfl) s)) ?_
                          refine TA.takeW 6 rfl rfl rfl rfl (StepS.fld rfl kfieldB_106_2_2_true) (by kernel_rfl) (by kernel_rfl) (by kernel_rfl) rfl (.inr (fun _ s => Sat.by [12, 12, 12, 12, 12, 12, 12, 11, 11, 11, 11, 11] 12 1 (by kernel_rfl) s)) ?_
                          refine TA.take 7 rfl rfl rfl rfl (StepS.ldB rfl (Ent.at 0 rfl) kscalB_3_true rfl) (by kernel_rfl) (by kernel_rfl) (by kernel_rfl) (by kernel_rfl) (by kernel_rfl) (fun _ s => Sat.by [12, 12, 12, 12, 12, 12, 12, 11, 11, 11, 11, 11] 12 1 (by kernel_rfl) s) ?_
                          refine TA.all2 (i := 4) (j := 8) (by kernel_rfl) ?_ ?_
                          · refine TB.of rfl ?_
                            refine TO.s rfl rfl rfl (StepS.idxRR rfl rfl (SS.rr (Ent.at 5 rfl)) ksliceB_50_22_1_true hxq159_4_2) ?_
                            refine TA.back (.inr (fun _ s => Sat.by [12, 12, 12, 12, 12, 12, 12, 11, 11, 11, 11, 11] 12 1 (by kernel_rfl) s)) ?_
                            refine TA.asL (L' := (Bx b91 106 [I x89.1, I x89.2.1, I x89.2.2.1, I x89.2.2.2] :: OwnS 28 1 v38 (y40.map cI) :: OwnS 161 5 v41 (y43.map cTiiibi) :: OwnS 3 1 v36 (y44.map cI) :: OwnS 3 1 v32 (y45.map cI) :: SS 22 3 1 cI v28 hs47 (y46) :: OwnS 161 5 v24 (y48.map cTiiibi) :: OwnS 3 1 v20 (y49.map cI) :: OwnS 4 1 v16 (y50.map cB) :: OwnS 3 1 v7 (y51.map cI) :: OwnS 3 1 v10 (y52.map cI) :: Bx bq6_5_1 69 [v38, v41, v7, v10] :: Bx b5 69 [.slice none 0 0, .slice none 0 0, .slice none 0 0, .slice none 0 0] :: L)) (listed' := #[true, true, true, true, true, false, true, true, false, false, false, false]) (by kernel_rfl) (by kernel_rfl) ?_
                            refine TA.all2 (i := 5) (j := 8) (by kernel_rfl) ?_ ?_
                            · refine TB.of rfl ?_
                              refine TO.s rfl rfl rfl (StepS.ldRR rfl (SS.rr (Ent.at 5 rfl)) kscalB_22_true hxq159_4_2) ?_
                              refine TA.back (.inr (fun _ s => Sat.by [12, 12, 12, 12, 12, 12, 12, 11, 11, 11, 11, 11] 12 1 (by kernel_rfl) s)) ?_
                              refine TA.asL (L' := (Bx b91 106 [I x89.1, I x89.2.1, I x89.2.2.1, I x89.2.2.2] :: OwnS 28 1 v38 (y40.map cI) :: OwnS 161 5 v41 (y43.map cTiiibi) :: OwnS 3 1 v36 (y44.map cI) :: OwnS 3 1 v32 (y45.map cI) :: SS 22 3 1 cI v28 hs47 (y46) :: OwnS 161 5 v24 (y48.map cTiiibi) :: OwnS 3 1 v20 (y49.map cI) :: OwnS 4 1 v16 (y50.map cB) :: OwnS 3 1 v7 (y51.map cI) :: OwnS 3 1 v10 (y52.map cI) :: Bx bq6_5_1 69 [v38, v41, v7, v10] :: Bx b5 69 [.slice none 0 0, .slice none 0 0, .slice none 0 0, .slice none 0 0] :: L)) (listed' := #[true, true, true, true, true, true, true, true, false, false, false, false]) (by kernel_rfl) (by kernel_rfl) ?_
                              refine TA.all1 (i := 8) (by kernel_rfl) ?_
                              refine TB.of rfl ?_
                              refine TO.litS (f := cI) ([x89.2.2.1] : List Int) kelemB_22_3_1_8_true kinfo_3_bind_zero_some_I_0 rfl rfl (fun _ => rfl) rfl rfl (by kernel_rfl) rfl fun vq159_8_1 => ?_
                              refine TA.back (.inr (fun _ s => Sat.by [13, 13, 13, 13, 13, 13, 13, 12, 12, 12, 12, 12] 12 2 (by kernel_rfl) s)) ?_
                              refine TA.asL (L' := (OwnS 3 1 vq159_8_1 (([x89.2.2.1] : List Int).map cI) :: Bx b91 106 [I x89.1, I x89.2.1, I x89.2.2.1, I x89.2.2.2] :: OwnS 28 1 v38 (y40.map cI) :: OwnS 161 5 v41 (y43.map cTiiibi) :: OwnS 3 1 v36 (y44.map cI) :: OwnS 3 1 v32 (y45.map cI) :: SS 22 3 1 cI v28 hs47 (y46) :: OwnS 161 5 v24 (y48.map cTiiibi) :: OwnS 3 1 v20 (y49.map cI) :: OwnS 4 1 v16 (y50.map cB) :: OwnS 3 1 v7 (y51.map cI) :: OwnS 3 1 v10 (y52.map cI) :: Bx bq6_5_1 69 [v38, v41, v7, v10] :: Bx b5 69 [.slice none 0 0, .slice none 0 0, .slice none 0 0, .slice none 0 0] :: L)) (listed' := #[true, true, true, true, true, true, true, true, true, false, false, false]) (by kernel_rfl) (by kernel_rfl) ?_
                              refine TA.all1 (i := 9) (by kernel_rfl) ?_
                              refine TB.of rfl ?_
                              refine TO.ghost (fun _ s => Sat.front 6 rfl s) ?_
                              refine TO.ghost (fun _ s => Sat.openRow hxq159_4_2 s) ?_
                              refine TO.app (k := 0) (f := cI) kelemB_22_3_1_8_true (by decide) rfl rfl rfl (OwnS.rd (Ent.at 2 rfl)) hkq159_9_3 (fun x c hc => by simp [Value.oneCell'] at hc ⊢; first | (obtain rfl := hc; rfl) | (rcases hc with rfl <;> rfl)) rfl rfl fun vq159_9_4 => ?_
                              refine TA.back (.inr (fun _ s => Sat.by [14, 14, 14, 14, 14, 14, 14, 14, 14, 14, 14, 14] 12 3 (by kernel_rfl) s)) ?_
                              refine TA.asL (L' := (OwnS 3 1 vq159_9_4 (yq159_9_2.map cI) :: SSh 22 3 1 cI v28 hs47 (y46) x89.2.1.toNat :: OwnS 3 1 vq159_8_1 (([x89.2.2.1] : List Int).map cI) :: Bx b91 106 [I x89.1, I x89.2.1, I x89.2.2.1, I x89.2.2.2] :: OwnS 28 1 v38 (y40.map cI) :: OwnS 161 5 v41 (y43.map cTiiibi) :: OwnS 3 1 v36 (y44.map cI) :: OwnS 3 1 v32 (y45.map cI) :: OwnS 161 5 v24 (y48.map cTiiibi) :: OwnS 3 1 v20 (y49.map cI) :: OwnS 4 1 v16 (y50.map cB) :: OwnS 3 1 v7 (y51.map cI) :: OwnS 3 1 v10 (y52.map cI) :: Bx bq6_5_1 69 [v38, v41, v7, v10] :: Bx b5 69 [.slice none 0 0, .slice none 0 0, .slice none 0 0, .slice none 0 0] :: L)) (listed' := #[true, true, true, true, true, true, true, true, true, true, false, false]) (by kernel_rfl) (by kernel_rfl) ?_
                              refine TA.all1 (i := 10) (by kernel_rfl) ?_
                              refine TB.of rfl ?_
                              refine TO.s rfl rfl rfl (StepS.idxRH rfl rfl (Ent.at 1 rfl) ksliceB_50_22_1_true hxq159_10_2) ?_
                              refine TA.back (.inr (fun _ s => Sat.by [14, 14, 14, 14, 14, 14, 14, 14, 14, 14, 14, 14] 12 3 (by kernel_rfl) s)) ?_
                              refine TA.asL (L' := (OwnS 3 1 vq159_9_4 (yq159_9_2.map cI) :: SSh 22 3 1 cI v28 hs47 (y46) x89.2.1.toNat :: OwnS 3 1 vq159_8_1 (([x89.2.2.1] : List Int).map cI) :: Bx b91 106 [I x89.1, I x89.2.1, I x89.2.2.1, I x89.2.2.2] :: OwnS 28 1 v38 (y40.map cI) :: OwnS 161 5 v41 (y43.map cTiiibi) :: OwnS 3 1 v36 (y44.map cI) :: OwnS 3 1 v32 (y45.map cI) :: OwnS 161 5 v24 (y48.map cTiiibi) :: OwnS 3 1 v20 (y49.map cI) :: OwnS 4 1 v16 (y50.map cB) :: OwnS 3 1 v7 (y51.map cI) :: OwnS 3 1 v10 (y52.map cI) :: Bx bq6_5_1 69 [v38, v41, v7, v10] :: Bx b5 69 [.slice none 0 0, .slice none 0 0, .slice none 0 0, .slice none 0 0] :: L)) (listed' := #[true, true, true, true, true, true, true, true, true, true, true, false]) (by kernel_rfl) (by kernel_rfl) ?_
                              refine TA.all1 (i := 11) (by kernel_rfl) ?_
                              refine TB.of rfl ?_
                              refine TO.ghost (fun _ s => Sat.front 1 rfl s) ?_
                              refine TO.stRowH (xs := yq159_9_2) rfl rfl hxq159_10_2 ksizeB_22_1_true ?_
                              refine TA.back (.inl (by kernel_rfl)) ?_
                              refine TA.asL (L' := (SS 22 3 1 cI v28 (hs47.set x89.2.1.toNat vq159_9_4) (y46.set x89.2.1.toNat yq159_9_2) :: OwnS 3 1 vq159_8_1 (([x89.2.2.1] : List Int).map cI) :: Bx b91 106 [I x89.1, I x89.2.1, I x89.2.2.1, I x89.2.2.2] :: OwnS 28 1 v38 (y40.map cI) :: OwnS 161 5 v41 (y43.map cTiiibi) :: OwnS 3 1 v36 (y44.map cI) :: OwnS 3 1 v32 (y45.map cI) :: OwnS 161 5 v24 (y48.map cTiiibi) :: OwnS 3 1 v20 (y49.map cI) :: OwnS 4 1 v16 (y50.map cB) :: OwnS 3 1 v7 (y51.map cI) :: OwnS 3 1 v10 (y52.map cI) :: Bx bq6_5_1 69 [v38, v41, v7, v10] :: Bx b5 69 [.slice none 0 0, .slice none 0 0, .slice none 0 0, .slice none 0 0] :: L)) (listed' := #[true, true, true, true, true, true, true, true, true, true, true, true]) (by kernel_rfl) (by kernel_rfl) ?_
                              cases hj162
                              refine TA.nil (by kernel_rfl) fun a w e s => ?_
                              exact ⟨(hs47.set x89.2.1.toNat vq159_9_4), e.sub (lk_of_allIn ⟨rfl, rfl, rfl, rfl, rfl, rfl, rfl, rfl, rfl, rfl, rfl, rfl, rfl, rfl, rfl, rfl, trivial⟩), s.mono fun _ s => (by exact Sat.by [13, 13, 13, 13, 13, 13, 13, 7, 13, 13, 13, 13, 13] 13 1 (by kernel_rfl) s)⟩
                            · refine TB.of rfl ?_
                              refine TO.litS (f := cI) ([x89.2.2.1] : List Int) kelemB_22_3_1_8_true kinfo_3_bind_zero_some_I_0 rfl rfl (fun _ => rfl) rfl rfl (by kernel_rfl) rfl fun vq159_8_1 => ?_
                              refine TA.back (.inr (fun _ s => Sat.by [13, 13, 13, 13, 13, 13, 13, 12, 12, 12, 12, 12] 12 2 (by kernel_rfl) s)) ?_
                              refine TA.asL (L' := (OwnS 3 1 vq159_8_1 (([x89.2.2.1] : List Int).map cI) :: Bx b91 106 [I x89.1, I x89.2.1, I x89.2.2.1, I x89.2.2.2] :: OwnS 28 1 v38 (y40.map cI) :: OwnS 161 5 v41 (y43.map cTiiibi) :: OwnS 3 1 v36 (y44.map cI) :: OwnS 3 1 v32 (y45.map cI) :: SS 22 3 1 cI v28 hs47 (y46) :: OwnS 161 5 v24 (y48.map cTiiibi) :: OwnS 3 1 v20 (y49.map cI) :: OwnS 4 1 v16 (y50.map cB) :: OwnS 3 1 v7 (y51.map cI) :: OwnS 3 1 v10 (y52.map cI) :: Bx bq6_5_1 69 [v38, v41, v7, v10] :: Bx b5 69 [.slice none 0 0, .slice none 0 0, .slice none 0 0, .slice none 0 0] :: L)) (listed' := #[true, true, true, true, true, false, true, true, true, false, false, false]) (by kernel_rfl) (by kernel_rfl) ?_
                              refine TA.all1 (i := 5) (by kernel_rfl) ?_
                              refine TB.of rfl ?_
                              refine TO.s rfl rfl rfl (StepS.ldRR rfl (SS.rr (Ent.at 6 rfl)) kscalB_22_true hxq159_4_2) ?_
                              refine TA.back (.inr (fun _ s => Sat.by [13, 13, 13, 13, 13, 13, 13, 12, 12, 12, 12, 12] 12 2 (by kernel_rfl) s)) ?_
                              refine TA.asL (L' := (OwnS 3 1 vq159_8_1 (([x89.2.2.1] : List Int).map cI) :: Bx b91 106 [I x89.1, I x89.2.1, I x89.2.2.1, I x89.2.2.2] :: OwnS 28 1 v38 (y40.map cI) :: OwnS 161 5 v41 (y43.map cTiiibi) :: OwnS 3 1 v36 (y44.map cI) :: OwnS 3 1 v32 (y45.map cI) :: SS 22 3 1 cI v28 hs47 (y46) :: OwnS 161 5 v24 (y48.map cTiiibi) :: OwnS 3 1 v20 (y49.map cI) :: OwnS 4 1 v16 (y50.map cB) :: OwnS 3 1 v7 (y51.map cI) :: OwnS 3 1 v10 (y52.map cI) :: Bx bq6_5_1 69 [v38, v41, v7, v10] :: Bx b5 69 [.slice none 0 0, .slice none 0 0, .slice none 0 0, .slice none 0 0] :: L)) (listed' := #[true, true, true, true, true, true, true, true, true, false, false, false]) (by kernel_rfl) (by kernel_rfl) ?_
                              refine TA.all1 (i := 9) (by kernel_rfl) ?_
                              refine TB.of rfl ?_
                              refine TO.ghost (fun _ s => Sat.front 6 rfl s) ?_
                              refine TO.ghost (fun _ s => Sat.openRow hxq159_4_2 s) ?_
                              refine TO.app (k := 0) (f := cI) kelemB_22_3_1_8_true (by decide) rfl rfl rfl (OwnS.rd (Ent.at 2 rfl)) hkq159_9_3 (fun x c hc => by simp [Value.oneCell'] at hc ⊢; first | (obtain rfl := hc; rfl) | (rcases hc with rfl <;> rfl)) rfl rfl fun vq159_9_4 => ?_
                              refine TA.back (.inr (fun _ s => Sat.by [14, 14, 14, 14, 14, 14, 14, 14, 14, 14, 14, 14] 12 3 (by kernel_rfl) s)) ?_
                              refine TA.asL (L' := (OwnS 3 1 vq159_9_4 (yq159_9_2.map cI) :: SSh 22 3 1 cI v28 hs47 (y46) x89.2.1.toNat :: OwnS 3 1 vq159_8_1 (([x89.2.2.1] : List Int).map cI) :: Bx b91 106 [I x89.1, I x89.2.1, I x89.2.2.1, I x89.2.2.2] :: OwnS 28 1 v38 (y40.map cI) :: OwnS 161 5 v41 (y43.map cTiiibi) :: OwnS 3 1 v36 (y44.map cI) :: OwnS 3 1 v32 (y45.map cI) :: OwnS 161 5 v24 (y48.map cTiiibi) :: OwnS 3 1 v20 (y49.map cI) :: OwnS 4 1 v16 (y50.map cB) :: OwnS 3 1 v7 (y51.map cI) :: OwnS 3 1 v10 (y52.map cI) :: Bx bq6_5_1 69 [v38, v41, v7, v10] :: Bx b5 69 [.slice none 0 0, .slice none 0 0, .slice none 0 0, .slice none 0 0] :: L)) (listed' := #[true, true, true, true, true, true, true, true, true, true, false, false]) (by kernel_rfl) (by kernel_rfl) ?_
                              refine TA.all1 (i := 10) (by kernel_rfl) ?_
                              refine TB.of rfl ?_
                              refine TO.s rfl rfl rfl (StepS.idxRH rfl rfl (Ent.at 1 rfl) ksliceB_50_22_1_true hxq159_10_2) ?_
                              refine TA.back (.inr (fun _ s => Sat.by [14, 14, 14, 14, 14, 14, 14, 14, 14, 14, 14, 14] 12 3 (by kernel_rfl) s)) ?_
                              refine TA.asL (L' := (OwnS 3 1 vq159_9_4 (yq159_9_2.map cI) :: SSh 22 3 1 cI v28 hs47 (y46) x89.2.1.toNat :: OwnS 3 1 vq159_8_1 (([x89.2.2.1] : List Int).map cI) :: Bx b91 106 [I x89.1, I x89.2.1, I x89.2.2.1, I x89.2.2.2] :: OwnS 28 1 v38 (y40.map cI) :: OwnS 161 5 v41 (y43.map cTiiibi) :: OwnS 3 1 v36 (y44.map cI) :: OwnS 3 1 v32 (y45.map cI) :: OwnS 161 5 v24 (y48.map cTiiibi) :: OwnS 3 1 v20 (y49.map cI) :: OwnS 4 1 v16 (y50.map cB) :: OwnS 3 1 v7 (y51.map cI) :: OwnS 3 1 v10 (y52.map cI) :: Bx bq6_5_1 69 [v38, v41, v7, v10] :: Bx b5 69 [.slice none 0 0, .slice none 0 0, .slice none 0 0, .slice none 0 0] :: L)) (listed' := #[true, true, true, true, true, true, true, true, true, true, true, false]) (by kernel_rfl) (by kernel_rfl) ?_
                              refine TA.all1 (i := 11) (by kernel_rfl) ?_
                              refine TB.of rfl ?_
                              refine TO.ghost (fun _ s => Sat.front 1 rfl s) ?_
                              refine TO.stRowH (xs := yq159_9_2) rfl rfl hxq159_10_2 ksizeB_22_1_true ?_
                              refine TA.back (.inl (by kernel_rfl)) ?_
                              refine TA.asL (L' := (SS 22 3 1 cI v28 (hs47.set x89.2.1.toNat vq159_9_4) (y46.set x89.2.1.toNat yq159_9_2) :: OwnS 3 1 vq159_8_1 (([x89.2.2.1] : List Int).map cI) :: Bx b91 106 [I x89.1, I x89.2.1, I x89.2.2.1, I x89.2.2.2] :: OwnS 28 1 v38 (y40.map cI) :: OwnS 161 5 v41 (y43.map cTiiibi) :: OwnS 3 1 v36 (y44.map cI) :: OwnS 3 1 v32 (y45.map cI) :: OwnS 161 5 v24 (y48.map cTiiibi) :: OwnS 3 1 v20 (y49.map cI) :: OwnS 4 1 v16 (y50.map cB) :: OwnS 3 1 v7 (y51.map cI) :: OwnS 3 1 v10 (y52.map cI) :: Bx bq6_5_1 69 [v38, v41, v7, v10] :: Bx b5 69 [.slice none 0 0, .slice none 0 0, .slice none 0 0, .slice none 0 0] :: L)) (listed' := #[true, true, true, true, true, true, true, true, true, true, true, true]) (by kernel_rfl) (by kernel_rfl) ?_
                              cases hj162
                              refine TA.nil (by kernel_rfl) fun a w e s => ?_
                              exact ⟨(hs47.set x89.2.1.toNat vq159_9_4), e.sub (lk_of_allIn ⟨rfl, rfl, rfl, rfl, rfl, rfl, rfl, rfl, rfl, rfl, rfl, rfl, rfl, rfl, rfl, rfl, trivial⟩), s.mono fun _ s => (by exact Sat.by [13, 13, 13, 13, 13, 13, 13, 7, 13, 13, 13, 13, 13] 13 1 (by kernel_rfl) s)⟩
                          · refine TB.of rfl ?_
                            refine TO.litS (f := cI) ([x89.2.2.1] : List Int) kelemB_22_3_1_8_true kinfo_3_bind_zero_some_I_0 rfl rfl (fun _ => rfl) rfl rfl (by kernel_rfl) rfl fun vq159_8_1 => ?_
                            refine TA.back (.inr (fun _ s => Sat.by [13, 13, 13, 13, 13, 13, 13, 12, 12, 12, 12, 12] 12 2 (by kernel_rfl) s)) ?_
                            refine TA.asL (L' := (OwnS 3 1 vq159_8_1 (([x89.2.2.1] : List Int).map cI) :: Bx b91 106 [I x89.1, I x89.2.1, I x89.2.2.1, I x89.2.2.2] :: OwnS 28 1 v38 (y40.map cI) :: OwnS 161 5 v41 (y43.map cTiiibi) :: OwnS 3 1 v36 (y44.map cI) :: OwnS 3 1 v32 (y45.map cI) :: SS 22 3 1 cI v28 hs47 (y46) :: OwnS 161 5 v24 (y48.map cTiiibi) :: OwnS 3 1 v20 (y49.map cI) :: OwnS 4 1 v16 (y50.map cB) :: OwnS 3 1 v7 (y51.map cI) :: OwnS 3 1 v10 (y52.map cI) :: Bx bq6_5_1 69 [v38, v41, v7, v10] :: Bx b5 69 [.slice none 0 0, .slice none 0 0, .slice none 0 0, .slice none 0 0] :: L)) (listed' := #[true, true, true, true, false, false, true, true, true, false, false, false]) (by kernel_rfl) (by kernel_rfl) ?_
                            refine TA.all1 (i := 4) (by kernel_rfl) ?_
                            refine TB.of rfl ?_
                            refine TO.s rfl rfl rfl (StepS.idxRR rfl rfl (SS.rr (Ent.at 6 rfl)) ksliceB_50_22_1_true hxq159_4_2) ?_
                            refine TA.back (.inr (fun _ s => Sat.by [13, 13, 13, 13, 13, 13, 13, 12, 12, 12, 12, 12] 12 2 (by kernel_rfl) s)) ?_
                            refine TA.asL (L' := (OwnS 3 1 vq159_8_1 (([x89.2.2.1] : List Int).map cI) :: Bx b91 106 [I x89.1, I x89.2.1, I x89.2.2.1, I x89.2.2.2] :: OwnS 28 1 v38 (y40.map cI) :: OwnS 161 5 v41 (y43.map cTiiibi) :: OwnS 3 1 v36 (y44.map cI) :: OwnS 3 1 v32 (y45.map cI) :: SS 22 3 1 cI v28 hs47 (y46) :: OwnS 161 5 v24 (y48.map cTiiibi) :: OwnS 3 1 v20 (y49.map cI) :: OwnS 4 1 v16 (y50.map cB) :: OwnS 3 1 v7 (y51.map cI) :: OwnS 3 1 v10 (y52.map cI) :: Bx bq6_5_1 69 [v38, v41, v7, v10] :: Bx b5 69 [.slice none 0 0, .slice none 0 0, .slice none 0 0, .slice none 0 0] :: L)) (listed' := #[true, true, true, true, true, false, true, true, true, false, false, false]) (by kernel_rfl) (by kernel_rfl) ?_
                            refine TA.all1 (i := 5) (by kernel_rfl) ?_
                            refine TB.of rfl ?_
                            refine TO.s rfl rfl rfl (StepS.ldRR rfl (SS.rr (Ent.at 6 rfl)) kscalB_22_true hxq159_4_2) ?_
                            refine TA.back (.inr (fun _ s => Sat.by [13, 13, 13, 13, 13, 13, 13, 12, 12, 12, 12, 12] 12 2 (by kernel_rfl) s)) ?_
                            refine TA.asL (L' := (OwnS 3 1 vq159_8_1 (([x89.2.2.1] : List Int).map cI) :: Bx b91 106 [I x89.1, I x89.2.1, I x89.2.2.1, I x89.2.2.2] :: OwnS 28 1 v38 (y40.map cI) :: OwnS 161 5 v41 (y43.map cTiiibi) :: OwnS 3 1 v36 (y44.map cI) :: OwnS 3 1 v32 (y45.map cI) :: SS 22 3 1 cI v28 hs47 (y46) :: OwnS 161 5 v24 (y48.map cTiiibi) :: OwnS 3 1 v20 (y49.map cI) :: OwnS 4 1 v16 (y50.map cB) :: OwnS 3 1 v7 (y51.map cI) :: OwnS 3 1 v10 (y52.map cI) :: Bx bq6_5_1 69 [v38, v41, v7, v10] :: Bx b5 69 [.slice none 0 0, .slice none 0 0, .slice none 0 0, .slice none 0 0] :: L)) (listed' := #[true, true, true, true, true, true, true, true, true, false, false, false]) (by kernel_rfl) (by kernel_rfl) ?_
                            refine TA.all1 (i := 9) (by kernel_rfl) ?_
                            refine TB.of rfl ?_
                            refine TO.ghost (fun _ s => Sat.front 6 rfl s) ?_
                            refine TO.ghost (fun _ s => Sat.openRow hxq159_4_2 s) ?_
                            refine TO.app (k := 0) (f := cI) kelemB_22_3_1_8_true (by decide) rfl rfl rfl (OwnS.rd (Ent.at 2 rfl)) hkq159_9_3 (fun x c hc => by simp [Value.oneCell'] at hc ⊢; first | (obtain rfl := hc; rfl) | (rcases hc with rfl <;> rfl)) rfl rfl fun vq159_9_4 => ?_
                            refine TA.back (.inr (fun _ s => Sat.by [14, 14, 14, 14, 14, 14, 14, 14, 14, 14, 14, 14] 12 3 (by kernel_rfl) s)) ?_
                            refine TA.asL (L' := (OwnS 3 1 vq159_9_4 (yq159_9_2.map cI) :: SSh 22 3 1 cI v28 hs47 (y46) x89.2.1.toNat :: OwnS 3 1 vq159_8_1 (([x89.2.2.1] : List Int).map cI) :: Bx b91 106 [I x89.1, I x89.2.1, I x89.2.2.1, I x89.2.2.2] :: OwnS 28 1 v38 (y40.map cI) :: OwnS 161 5 v41 (y43.map cTiiibi) :: OwnS 3 1 v36 (y44.map cI) :: OwnS 3 1 v32 (y45.map cI) :: OwnS 161 5 v24 (y48.map cTiiibi) :: OwnS 3 1 v20 (y49.map cI) :: OwnS 4 1 v16 (y50.map cB) :: OwnS 3 1 v7 (y51.map cI) :: OwnS 3 1 v10 (y52.map cI) :: Bx bq6_5_1 69 [v38, v41, v7, v10] :: Bx b5 69 [.slice none 0 0, .slice none 0 0, .slice none 0 0, .slice none 0 0] :: L)) (listed' := #[true, true, true, true, true, true, true, true, true, true, false, false]) (by kernel_rfl) (by kernel_rfl) ?_
                            refine TA.all1 (i := 10) (by kernel_rfl) ?_
                            refine TB.of rfl ?_
                            refine TO.s rfl rfl rfl (StepS.idxRH rfl rfl (Ent.at 1 rfl) ksliceB_50_22_1_true hxq159_10_2) ?_
                            refine TA.back (.inr (fun _ s => Sat.by [14, 14, 14, 14, 14, 14, 14, 14, 14, 14, 14, 14] 12 3 (by kernel_rfl) s)) ?_
                            refine TA.asL (L' := (OwnS 3 1 vq159_9_4 (yq159_9_2.map cI) :: SSh 22 3 1 cI v28 hs47 (y46) x89.2.1.toNat :: OwnS 3 1 vq159_8_1 (([x89.2.2.1] : List Int).map cI) :: Bx b91 106 [I x89.1, I x89.2.1, I x89.2.2.1, I x89.2.2.2] :: OwnS 28 1 v38 (y40.map cI) :: OwnS 161 5 v41 (y43.map cTiiibi) :: OwnS 3 1 v36 (y44.map cI) :: OwnS 3 1 v32 (y45.map cI) :: OwnS 161 5 v24 (y48.map cTiiibi) :: OwnS 3 1 v20 (y49.map cI) :: OwnS 4 1 v16 (y50.map cB) :: OwnS 3 1 v7 (y51.map cI) :: OwnS 3 1 v10 (y52.map cI) :: Bx bq6_5_1 69 [v38, v41, v7, v10] :: Bx b5 69 [.slice none 0 0, .slice none 0 0, .slice none 0 0, .slice none 0 0] :: L)) (listed' := #[true, true, true, true, true, true, true, true, true, true, true, false]) (by kernel_rfl) (by kernel_rfl) ?_
                            refine TA.all1 (i := 11) (by kernel_rfl) ?_
                            refine TB.of rfl ?_
                            refine TO.ghost (fun _ s => Sat.front 1 rfl s) ?_
                            refine TO.stRowH (xs := yq159_9_2) rfl rfl hxq159_10_2 ksizeB_22_1_true ?_
                            refine TA.back (.inl (by kernel_rfl)) ?_
                            refine TA.asL (L' := (SS 22 3 1 cI v28 (hs47.set x89.2.1.toNat vq159_9_4) (y46.set x89.2.1.toNat yq159_9_2) :: OwnS 3 1 vq159_8_1 (([x89.2.2.1] : List Int).map cI) :: Bx b91 106 [I x89.1, I x89.2.1, I x89.2.2.1, I x89.2.2.2] :: OwnS 28 1 v38 (y40.map cI) :: OwnS 161 5 v41 (y43.map cTiiibi) :: OwnS 3 1 v36 (y44.map cI) :: OwnS 3 1 v32 (y45.map cI) :: OwnS 161 5 v24 (y48.map cTiiibi) :: OwnS 3 1 v20 (y49.map cI) :: OwnS 4 1 v16 (y50.map cB) :: OwnS 3 1 v7 (y51.map cI) :: OwnS 3 1 v10 (y52.map cI) :: Bx bq6_5_1 69 [v38, v41, v7, v10] :: Bx b5 69 [.slice none 0 0, .slice none 0 0, .slice none 0 0, .slice none 0 0] :: L)) (listed' := #[true, true, true, true, true, true, true, true, true, true, true, true]) (by kernel_rfl) (by kernel_rfl) ?_
                            cases hj162
                            refine TA.nil (by kernel_rfl) fun a w e s => ?_
                            exact ⟨(hs47.set x89.2.1.toNat vq159_9_4), e.sub (lk_of_allIn ⟨rfl, rfl, rfl, rfl, rfl, rfl, rfl, rfl, rfl, rfl, rfl, rfl, rfl, rfl, rfl, rfl, trivial⟩), s.mono fun _ s => (by exact Sat.by [13, 13, 13, 13, 13, 13, 13, 7, 13, 13, 13, 13, 13] 13 1 (by kernel_rfl) s)⟩
                        · intro a w ⟨hs161, he, hs⟩
                          refine TC.use ?_ he hs
                          refine TC.k ?_
                          refine TC.k ?_
                          refine TC.region_still kfollows_mixedOrders_true (by kernel_rfl) ?_
                          refine TS.s rfl rfl rfl (StepS.move rfl) ?_
                          refine TS.s rfl rfl rfl (StepS.move rfl) ?_
                          obtain ⟨x163, hx164, hj105⟩ := bind_some hj105
                          refine TS.s rfl rfl rfl (StepS.idx rfl rfl (OwnS.rd (Ent.at 7 rfl)) ksliceB_22_3_1_true (idx_spec hx164).1 (idxm_lt hx164)) ?_
                          refine TS.s rfl rfl rfl (StepS.ld0 rfl (OwnS.rd (Ent.at 7 rfl)) kscalB_3_true rfl (idxm hx164) rfl) ?_
                          refine TS.s rfl rfl rfl (StepS.cmp rfl rfl rfl) ?_
                          refine TS.s rfl rfl rfl (StepS.move rfl) ?_
                          obtain ⟨b166, hj167, hj105⟩ := bind_some hj105
                          refine TS.mid1 12 180 (.bool b166) ?_ ?_
                          · refine bcase ((x163 == 1)) (fun hb165 => ?_) (fun hb165 => ?_)
                            · replace hj167 := cond_t hb165 hj167
                              refine TS.sw rfl rfl rfl hb165 rfl rfl (StepS.fld rfl kfieldB_69_2_2_true) ?_
                              refine TS.sw rfl rfl rfl hb165 rfl rfl (StepS.ldB rfl (Ent.at 11 rfl) kscalB_22_true rfl) ?_
                              refine TS.sw rfl rfl rfl hb165 rfl rfl (StepS.fld rfl kfieldB_106_2_2_true) ?_
                              refine TS.sw rfl rfl rfl hb165 rfl rfl (StepS.ldB rfl (Ent.at 0 rfl) kscalB_3_true rfl) ?_
                              obtain ⟨x168, hx169, hj167⟩ := bind_some hj167
                              refine TS.sw rfl rfl rfl hb165 rfl rfl (StepS.idx rfl rfl (OwnS.rd (Ent.at 9 rfl)) ksliceB_22_3_1_true (idx_spec hx169).1 (idxm_lt hx169)) ?_
                              refine TS.sw rfl rfl rfl hb165 rfl rfl (StepS.ld0 rfl (OwnS.rd (Ent.at 9 rfl)) kscalB_3_true rfl (idxm hx169) rfl) ?_
                              refine TS.sw rfl rfl rfl hb165 rfl rfl (StepS.move rfl) ?_
                              refine TS.sw rfl rfl rfl hb165 rfl rfl (StepS.move rfl) ?_
                              obtain ⟨x170, hx171, hj167⟩ := bind_some hj167
                              refine TS.sw rfl rfl rfl hb165 rfl rfl (StepS.idx rfl rfl (OwnS.rd (Ent.at 4 rfl)) ksliceB_22_3_1_true (idx_spec hx171).1 (idxm_lt hx171)) ?_
                              refine TS.sw rfl rfl rfl hb165 rfl rfl (StepS.ld0 rfl (OwnS.rd (Ent.at 4 rfl)) kscalB_3_true rfl (idxm hx171) rfl) ?_
                              refine TS.sw rfl rfl rfl hb165 rfl rfl (StepS.cmp rfl rfl rfl) ?_
                              cases hj167
                              refine TS.s rfl rfl rfl (StepS.pickT rfl hb165 rfl) ?_
                              exact TS.up1 12 0 rfl rfl rfl rfl
                            · replace hj167 := cond_f hb165 hj167
                              cases hj167
                              refine TS.skip rfl rfl rfl (skipF hb165) rfl rfl ?_
                              refine TS.skip rfl rfl rfl (skipF hb165) rfl rfl ?_
                              refine TS.skip rfl rfl rfl (skipF hb165) rfl rfl ?_
                              refine TS.skip rfl rfl rfl (skipF hb165) rfl rfl ?_
                              refine TS.skip rfl rfl rfl (skipF hb165) rfl rfl ?_
                              refine TS.skip rfl rfl rfl (skipF hb165) rfl rfl ?_
                              refine TS.skip rfl rfl rfl (skipF hb165) rfl rfl ?_
                              refine TS.skip rfl rfl rfl (skipF hb165) rfl rfl ?_
                              refine TS.skip rfl rfl rfl (skipF hb165) rfl rfl ?_
                              refine TS.skip rfl rfl rfl (skipF hb165) rfl rfl ?_
                              refine TS.skip rfl rfl rfl (skipF hb165) rfl rfl ?_
                              refine TS.s rfl rfl rfl (StepS.pickF rfl hb165 rfl) ?_
                              exact TS.up1 12 0 rfl rfl rfl rfl
                          refine TS.code ?_
                          obtain ⟨⟨y172, y173⟩, hj174, hj105⟩ := bind_some hj105
                          first | refine TC.cutM (fun a w => Mid 315 B [(0, I a0), (4, .pointer (some ⟨b5, 0, none⟩)), (5, .pointer (some ⟨bq6_5_1, 0, none⟩)), (6, v16), (7, v20), (8, v24), (9, v28), (10, v32), (11, v36), (12, I x53), (13, .pointer (some ⟨b91, 0, none⟩)), (14, I 0), (15, I x89.2.1), (29, h1), (30, I (a1.length : Int)), (31, I x53)] (Bx b91 106 [I x89.1, I x89.2.1, I x89.2.2.1, I x89.2.2.2] :: OwnS 28 1 v38 (y40.map cI) :: OwnS 161 5 v41 (y43.map cTiiibi) :: OwnS 3 1 v36 (y172.map cI) :: OwnS 3 1 v32 (y173.map cI) :: SS 22 3 1 cI v28 hs161 (y160) :: OwnS 161 5 v24 (y48.map cTiiibi) :: OwnS 3 1 v20 (y49.map cI) :: OwnS 4 1 v16 (y50.map cB) :: OwnS 3 1 v7 (y51.map cI) :: OwnS 3 1 v10 (y52.map cI) :: Bx bq6_5_1 69 [v38, v41, v7, v10] :: Bx b5 69 [.slice none 0 0, .slice none 0 0, .slice none 0 0, .slice none 0 0] :: L) a w) ?_ ?_ | refine TC.cutX (fun a w => Mid 315 B [(0, I a0), (4, .pointer (some ⟨b5, 0, none⟩)), (5, .pointer (some ⟨bq6_5_1, 0, none⟩)), (6, v16), (7, v20), (8, v24), (9, v28), (10, v32), (11, v36), (12, I x53), (13, .pointer (some ⟨b91, 0, none⟩)), (14, I 0), (15, I x89.2.1), (29, h1), (30, I (a1.length : Int)), (31, I x53)] (Bx b91 106 [I x89.1, I x89.2.1, I x89.2.2.1, I x89.2.2.2] :: OwnS 28 1 v38 (y40.map cI) :: OwnS 161 5 v41 (y43.map cTiiibi) :: OwnS 3 1 v36 (y172.map cI) :: OwnS 3 1 v32 (y173.map cI) :: SS 22 3 1 cI v28 hs161 (y160) :: OwnS 161 5 v24 (y48.map cTiiibi) :: OwnS 3 1 v20 (y49.map cI) :: OwnS 4 1 v16 (y50.map cB) :: OwnS 3 1 v7 (y51.map cI) :: OwnS 3 1 v10 (y52.map cI) :: Bx bq6_5_1 69 [v38, v41, v7, v10] :: Bx b5 69 [.slice none 0 0, .slice none 0 0, .slice none 0 0, .slice none 0 0] :: L) a w) ?_ ?_
                          · refine TC.cond rfl (fun hc175 => ?_) (fun hc175 => ?_)
                            · replace hj174 := cond_t hc175 hj174
                              refine TC.k ?_
                              refine TC.region ?_
                              refine TO.s rfl rfl rfl (StepS.move rfl) ?_
                              refine TO.s rfl rfl rfl (StepS.move rfl) ?_
                              refine TO.s rfl rfl rfl (StepS.fld rfl kfieldB_69_2_2_true) ?_
                              refine TO.s rfl rfl rfl (StepS.ldB rfl (Ent.at 11 rfl) kscalB_22_true rfl) ?_
                              refine TO.s rfl rfl rfl (StepS.fld rfl kfieldB_106_2_2_true) ?_
                              refine TO.s rfl rfl rfl (StepS.ldB rfl (Ent.at 0 rfl) kscalB_3_true rfl) ?_
                              obtain ⟨x176, hx177, hj174⟩ := bind_some hj174
                              refine TO.s rfl rfl rfl (StepS.idx rfl rfl (OwnS.rd (Ent.at 9 rfl)) ksliceB_22_3_1_true (idx_spec hx177).1 (idxm_lt hx177)) ?_
                              refine TO.s rfl rfl rfl (StepS.ld0 rfl (OwnS.rd (Ent.at 9 rfl)) kscalB_3_true rfl (idxm hx177) rfl) ?_
                              obtain ⟨x178, hx179, hj174⟩ := bind_some hj174
                              refine TO.s rfl rfl rfl (StepS.idx rfl rfl (OwnS.rd (Ent.at 4 rfl)) ksliceB_22_3_1_true (idx_spec hx179).1 (idxm_lt hx179)) ?_
                              refine TO.stO (i := x89.2.1.toNat) (off := 0) (us := [I x176]) 4 x176 rfl rfl rfl ksizeB_3_1_true rfl rfl rfl (idx_spec hx179).2 rfl (by simp [Value.oneCell']) rfl ?_
                              refine TO.code ?_
                              refine TC.region ?_
                              refine TO.s rfl rfl rfl (StepS.move rfl) ?_
                              refine TO.s rfl rfl rfl (StepS.move rfl) ?_
                              refine TO.s rfl rfl rfl (StepS.fld rfl kfieldB_69_3_3_true) ?_
                              refine TO.s rfl rfl rfl (StepS.ldB rfl (Ent.at 11 rfl) kscalB_22_true rfl) ?_
                              refine TO.s rfl rfl rfl (StepS.fld rfl kfieldB_106_2_2_true) ?_
                              refine TO.s rfl rfl rfl (StepS.ldB rfl (Ent.at 0 rfl) kscalB_3_true rfl) ?_
                              obtain ⟨x180, hx181, hj174⟩ := bind_some hj174
                              refine TO.s rfl rfl rfl (StepS.idx rfl rfl (OwnS.rd (Ent.at 10 rfl)) ksliceB_22_3_1_true (idx_spec hx181).1 (idxm_lt hx181)) ?_
                              refine TO.s rfl rfl rfl (StepS.ld0 rfl (OwnS.rd (Ent.at 10 rfl)) kscalB_3_true rfl (idxm hx181) rfl) ?_
                              obtain ⟨x182, hx183, hj174⟩ := bind_some hj174
                              refine TO.s rfl rfl rfl (StepS.idx rfl rfl (OwnS.rd (Ent.at 3 rfl)) ksliceB_22_3_1_true (idx_spec hx183).1 (idxm_lt hx183)) ?_
                              refine TO.stO (i := x89.2.1.toNat) (off := 0) (us := [I x180]) 3 x180 rfl rfl rfl ksizeB_3_1_true rfl rfl rfl (idx_spec hx183).2 rfl (by simp [Value.oneCell']) rfl ?_
                              cases hj174
                              refine TO.nil fun a w e s => ?_
                              exact ⟨e.sub (lk_of_allIn ⟨rfl, rfl, rfl, rfl, rfl, rfl, rfl, rfl, rfl, rfl, rfl, rfl, rfl, rfl, rfl, rfl, trivial⟩), s⟩
                            · replace hj174 := cond_f hc175 hj174
                              cases hj174
                              refine TC.skip fun a w e s => ?_
                              exact ⟨e.sub (lk_of_allIn ⟨rfl, rfl, rfl, rfl, rfl, rfl, rfl, rfl, rfl, rfl, rfl, rfl, rfl, rfl, rfl, rfl, trivial⟩), s⟩
                          · intro a w ⟨he, hs⟩
                            refine TC.use ?_ he hs
                            refine TC.k ?_
                            refine TC.k ?_
                            refine TC.region_still kfollows_mixedOrders_true (by kernel_rfl) ?_
                            refine TS.s rfl rfl rfl (StepS.move rfl) ?_
                            refine TS.s rfl rfl rfl (StepS.move rfl) ?_
                            obtain ⟨x184, hx185, hj105⟩ := bind_some hj105
                            refine TS.s rfl rfl rfl (StepS.idx rfl rfl (OwnS.rd (Ent.at 7 rfl)) ksliceB_22_3_1_true (idx_spec hx185).1 (idxm_lt hx185)) ?_
                            refine TS.s rfl rfl rfl (StepS.ld0 rfl (OwnS.rd (Ent.at 7 rfl)) kscalB_3_true rfl (idxm hx185) rfl) ?_
                            refine TS.s rfl rfl rfl (StepS.cmp rfl rfl rfl) ?_
                            refine TS.s rfl rfl rfl (StepS.move rfl) ?_
                            obtain ⟨b187, hj188, hj105⟩ := bind_some hj105
                            refine TS.mid1 12 216 (.bool b187) ?_ ?_
                            · refine bcase ((x184 == 2)) (fun hb186 => ?_) (fun hb186 => ?_)
                              · replace hj188 := cond_t hb186 hj188
                                refine TS.sw rfl rfl rfl hb186 rfl rfl (StepS.move rfl) ?_
                                refine TS.sw rfl rfl rfl hb186 rfl rfl (StepS.move rfl) ?_
                                obtain ⟨x189, hx190, hj188⟩ := bind_some hj188
                                refine TS.sw rfl rfl rfl hb186 rfl rfl (StepS.idx rfl rfl (OwnS.rd (Ent.at 4 rfl)) ksliceB_22_3_1_true (idx_spec hx190).1 (idxm_lt hx190)) ?_
                                refine TS.sw rfl rfl rfl hb186 rfl rfl (StepS.ld0 rfl (OwnS.rd (Ent.at 4 rfl)) kscalB_3_true rfl (idxm hx190) rfl) ?_
                                refine TS.sw rfl rfl rfl hb186 rfl rfl (StepS.fld rfl kfieldB_69_2_2_true) ?_
                                refine TS.sw rfl rfl rfl hb186 rfl rfl (StepS.ldB rfl (Ent.at 11 rfl) kscalB_22_true rfl) ?_
                                refine TS.sw rfl rfl rfl hb186 rfl rfl (StepS.fld rfl kfieldB_106_2_2_true) ?_
                                refine TS.sw rfl rfl rfl hb186 rfl rfl (StepS.ldB rfl (Ent.at 0 rfl) kscalB_3_true rfl) ?_
                                obtain ⟨x191, hx192, hj188⟩ := bind_some hj188
                                refine TS.sw rfl rfl rfl hb186 rfl rfl (StepS.idx rfl rfl (OwnS.rd (Ent.at 9 rfl)) ksliceB_22_3_1_true (idx_spec hx192).1 (idxm_lt hx192)) ?_
                                refine TS.sw rfl rfl rfl hb186 rfl rfl (StepS.ld0 rfl (OwnS.rd (Ent.at 9 rfl)) kscalB_3_true rfl (idxm hx192) rfl) ?_
                                refine TS.sw rfl rfl rfl hb186 rfl rfl (StepS.cmp rfl rfl rfl) ?_
                                cases hj188
                                refine TS.s rfl rfl rfl (StepS.pickT rfl hb186 rfl) ?_
                                exact TS.up1 12 0 rfl rfl rfl rfl
                              · replace hj188 := cond_f hb186 hj188
                                cases hj188
                                refine TS.skip rfl rfl rfl (skipF hb186) rfl rfl ?_
                                refine TS.skip rfl rfl rfl (skipF hb186) rfl rfl ?_
                                refine TS.skip rfl rfl rfl (skipF hb186) rfl rfl ?_
                                refine TS.skip rfl rfl rfl (skipF hb186) rfl rfl ?_
                                refine TS.skip rfl rfl rfl (skipF hb186) rfl rfl ?_
                                refine TS.skip rfl rfl rfl (skipF hb186) rfl rfl ?_
                                refine TS.skip rfl rfl rfl (skipF hb186) rfl rfl ?_
                                refine TS.skip rfl rfl rfl (skipF hb186) rfl rfl ?_
                                refine TS.skip rfl rfl rfl (skipF hb186) rfl rfl ?_
                                refine TS.skip rfl rfl rfl (skipF hb186) rfl rfl ?_
                                refine TS.skip rfl rfl rfl (skipF hb186) rfl rfl ?_
                                refine TS.s rfl rfl rfl (StepS.pickF rfl hb186 rfl) ?_
                                exact TS.up1 12 0 rfl rfl rfl rfl
                            refine TS.code ?_
                            obtain ⟨⟨y193, y194⟩, hj195, hj105⟩ := bind_some hj105
                            first | refine TC.cutM (fun a w => Mid 315 B [(0, I a0), (4, .pointer (some ⟨b5, 0, none⟩)), (5, .pointer (some ⟨bq6_5_1, 0, none⟩)), (6, v16), (7, v20), (8, v24), (9, v28), (10, v32), (11, v36), (12, I x53), (14, I 0), (15, I x89.2.1), (29, h1), (30, I (a1.length : Int)), (31, I x53)] (Bx b91 106 [I x89.1, I x89.2.1, I x89.2.2.1, I x89.2.2.2] :: OwnS 28 1 v38 (y40.map cI) :: OwnS 161 5 v41 (y43.map cTiiibi) :: OwnS 3 1 v36 (y172.map cI) :: OwnS 3 1 v32 (y173.map cI) :: SS 22 3 1 cI v28 hs161 (y160) :: OwnS 161 5 v24 (y48.map cTiiibi) :: OwnS 3 1 v20 (y49.map cI) :: OwnS 4 1 v16 (y50.map cB) :: OwnS 3 1 v7 (y193.map cI) :: OwnS 3 1 v10 (y194.map cI) :: Bx bq6_5_1 69 [v38, v41, v7, v10] :: Bx b5 69 [.slice none 0 0, .slice none 0 0, .slice none 0 0, .slice none 0 0] :: L) a w) ?_ ?_ | refine TC.cutX (fun a w => Mid 315 B [(0, I a0), (4, .pointer (some ⟨b5, 0, none⟩)), (5, .pointer (some ⟨bq6_5_1, 0, none⟩)), (6, v16), (7, v20), (8, v24), (9, v28), (10, v32), (11, v36), (12, I x53), (14, I 0), (15, I x89.2.1), (29, h1), (30, I (a1.length : Int)), (31, I x53)] (Bx b91 106 [I x89.1, I x89.2.1, I x89.2.2.1, I x89.2.2.2] :: OwnS 28 1 v38 (y40.map cI) :: OwnS 161 5 v41 (y43.map cTiiibi) :: OwnS 3 1 v36 (y172.map cI) :: OwnS 3 1 v32 (y173.map cI) :: SS 22 3 1 cI v28 hs161 (y160) :: OwnS 161 5 v24 (y48.map cTiiibi) :: OwnS 3 1 v20 (y49.map cI) :: OwnS 4 1 v16 (y50.map cB) :: OwnS 3 1 v7 (y193.map cI) :: OwnS 3 1 v10 (y194.map cI) :: Bx bq6_5_1 69 [v38, v41, v7, v10] :: Bx b5 69 [.slice none 0 0, .slice none 0 0, .slice none 0 0, .slice none 0 0] :: L) a w) ?_ ?_
                            · refine TC.cond rfl (fun hc196 => ?_) (fun hc196 => ?_)
                              · replace hj195 := cond_t hc196 hj195
                                refine TC.k ?_
                                refine TC.region_tail 9 kfollows_mixedOrders_true (by kernel_rfl) ?_
                                refine TS.s rfl rfl rfl (StepS.fld rfl kfieldB_69_2_2_true) ?_
                                refine TS.s rfl rfl rfl (StepS.ldB rfl (Ent.at 11 rfl) kscalB_22_true rfl) ?_
                                refine TS.s rfl rfl rfl (StepS.fld rfl kfieldB_106_2_2_true) ?_
                                refine TS.s rfl rfl rfl (StepS.ldB rfl (Ent.at 0 rfl) kscalB_3_true rfl) ?_
                                refine TS.s rfl rfl rfl (StepS.move rfl) ?_
                                refine TS.s rfl rfl rfl (StepS.move rfl) ?_
                                obtain ⟨x197, hx198, hj195⟩ := bind_some hj195
                                refine TS.s rfl rfl rfl (StepS.idx rfl rfl (OwnS.rd (Ent.at 4 rfl)) ksliceB_22_3_1_true (idx_spec hx198).1 (idxm_lt hx198)) ?_
                                refine TS.s rfl rfl rfl (StepS.ld0 rfl (OwnS.rd (Ent.at 4 rfl)) kscalB_3_true rfl (idxm hx198) rfl) ?_
                                obtain ⟨x199, hx200, hj195⟩ := bind_some hj195
                                refine TS.s rfl rfl rfl (StepS.idx rfl rfl (OwnS.rd (Ent.at 9 rfl)) ksliceB_22_3_1_true (idx_spec hx200).1 (idxm_lt hx200)) ?_
                                refine TS.nil ?_
                                refine TO.at ?_
                                refine TO.stO (i := x89.2.2.1.toNat) (off := 0) (us := [I x197]) 9 x197 rfl rfl rfl ksizeB_3_1_true rfl rfl rfl (idx_spec hx200).2 rfl (by simp [Value.oneCell']) rfl ?_
                                refine TO.code ?_
                                refine TC.region_tail 9 kfollows_mixedOrders_true (by kernel_rfl) ?_
                                refine TS.s rfl rfl rfl (StepS.fld rfl kfieldB_69_3_3_true) ?_
                                refine TS.s rfl rfl rfl (StepS.ldB rfl (Ent.at 11 rfl) kscalB_22_true rfl) ?_
                                refine TS.s rfl rfl rfl (StepS.fld rfl kfieldB_106_2_2_true) ?_
                                refine TS.s rfl rfl rfl (StepS.ldB rfl (Ent.at 0 rfl) kscalB_3_true rfl) ?_
                                refine TS.s rfl rfl rfl (StepS.move rfl) ?_
                                refine TS.s rfl rfl rfl (StepS.move rfl) ?_
                                obtain ⟨x201, hx202, hj195⟩ := bind_some hj195
                                refine TS.s rfl rfl rfl (StepS.idx rfl rfl (OwnS.rd (Ent.at 3 rfl)) ksliceB_22_3_1_true (idx_spec hx202).1 (idxm_lt hx202)) ?_
                                refine TS.s rfl rfl rfl (StepS.ld0 rfl (OwnS.rd (Ent.at 3 rfl)) kscalB_3_true rfl (idxm hx202) rfl) ?_
                                obtain ⟨x203, hx204, hj195⟩ := bind_some hj195
                                refine TS.s rfl rfl rfl (StepS.idx rfl rfl (OwnS.rd (Ent.at 10 rfl)) ksliceB_22_3_1_true (idx_spec hx204).1 (idxm_lt hx204)) ?_
                                refine TS.nil ?_
                                refine TO.at ?_
                                refine TO.stO (i := x89.2.2.1.toNat) (off := 0) (us := [I x201]) 10 x201 rfl rfl rfl ksizeB_3_1_true rfl rfl rfl (idx_spec hx204).2 rfl (by simp [Value.oneCell']) rfl ?_
                                cases hj195
                                refine TO.nil fun a w e s => ?_
                                exact ⟨e.sub (lk_of_allIn ⟨rfl, rfl, rfl, rfl, rfl, rfl, rfl, rfl, rfl, rfl, rfl, rfl, rfl, rfl, rfl, trivial⟩), s⟩
                              · replace hj195 := cond_f hc196 hj195
                                cases hj195
                                refine TC.skip fun a w e s => ?_
                                exact ⟨e.sub (lk_of_allIn ⟨rfl, rfl, rfl, rfl, rfl, rfl, rfl, rfl, rfl, rfl, rfl, rfl, rfl, rfl, rfl, trivial⟩), s⟩
                            · intro a w ⟨he, hs⟩
                              refine TC.use ?_ he hs
                              refine TC.k ?_
                              refine TC.region ?_
                              refine TO.s rfl rfl rfl (StepS.move rfl) ?_
                              refine TO.s rfl rfl rfl (StepS.move rfl) ?_
                              obtain ⟨x205, hx206, hj105⟩ := bind_some hj105
                              refine TO.s rfl rfl rfl (StepS.idxRR rfl rfl (SS.rr (Ent.at 5 rfl)) ksliceB_50_22_1_true hx206) ?_
                              refine TO.s rfl rfl rfl (StepS.ldRR rfl (SS.rr (Ent.at 5 rfl)) kscalB_22_true hx206) ?_
                              refine TO.s rfl rfl rfl (StepS.lenm rfl (RR.row (SS.rr (Ent.at 5 rfl)) hx206) ksliceB_22_3_1_true rfl) ?_
                              refine TO.s rfl rfl rfl (StepS.ari rfl rfl rfl) ?_
                              refine TO.s rfl rfl rfl (StepS.move rfl) ?_
                              refine TO.s rfl rfl rfl (StepS.cmp rfl rfl rfl) ?_
                              refine TO.code ?_
                              refine TC.cond rfl (fun hc208 => ?_) (fun hc208 => ?_)
                              · replace hj105 := cond_t hc208 hj105
                                refine TC.k ?_
                                refine TC.region ?_
                                refine TO.s rfl rfl rfl (StepS.move rfl) ?_
                                refine TO.s rfl rfl rfl (StepS.move rfl) ?_
                                obtain ⟨x209, hx210, hj105⟩ := bind_some hj105
                                refine TO.s rfl rfl rfl (StepS.idxRR rfl rfl (SS.rr (Ent.at 5 rfl)) ksliceB_50_22_1_true hx210) ?_
                                refine TO.ghost (fun _ => Sat.nilS (e := 3) (sz := 1) (f := cI)) ?_
                                refine TO.ghost (fun _ s => Sat.front 6 rfl s) ?_
                                refine TO.stRow (xs := ([] : List (Int))) rfl rfl hx210 ksizeB_22_1_true ?_
                                refine TO.code ?_
                                refine TC.k ?_
                                refine TC.region ?_
                                refine TO.s rfl rfl rfl (StepS.move rfl) ?_
                                refine TO.s rfl rfl rfl (StepS.move rfl) ?_
                                obtain ⟨x212, hx213, hj105⟩ := bind_some hj105
                                refine TO.s rfl rfl rfl (StepS.idx rfl rfl (OwnS.rd (Ent.at 7 rfl)) ksliceB_22_3_1_true (idx_spec hx213).1 (idxm_lt hx213)) ?_
                                refine TO.s rfl rfl rfl (StepS.ld0 rfl (OwnS.rd (Ent.at 7 rfl)) kscalB_3_true rfl (idxm hx213) rfl) ?_
                                refine TO.s rfl rfl rfl (StepS.cmp rfl rfl rfl) ?_
                                refine TO.code ?_
                                refine TC.cond rfl (fun hc214 => ?_) (fun hc214 => ?_)
                                · replace hj105 := cond_t hc214 hj105
                                  refine TC.k ?_
                                  refine TC.region ?_
                                  refine TO.s rfl rfl rfl (StepS.move rfl) ?_
                                  refine TO.s rfl rfl rfl (StepS.move rfl) ?_
                                  obtain ⟨x215, hx216, hj105⟩ := bind_some hj105
                                  refine TO.s rfl rfl rfl (StepS.idx rfl rfl (OwnS.rd (Ent.at 7 rfl)) ksliceB_22_3_1_true (idx_spec hx216).1 (idxm_lt hx216)) ?_
                                  refine TO.stO (i := x89.2.1.toNat) (off := 0) (us := [I 0]) 7 0 rfl rfl rfl ksizeB_3_1_true rfl rfl rfl (idx_spec hx216).2 rfl (by simp [Value.oneCell']) rfl ?_
                                  refine TO.code ?_
                                  refine TC.k ?_
                                  refine TC.region ?_
                                  refine TO.s rfl rfl rfl (StepS.move rfl) ?_
                                  refine TO.s rfl rfl rfl (StepS.move rfl) ?_
                                  refine TO.s rfl rfl rfl (StepS.move rfl) ?_
                                  obtain ⟨x217, hx218, hj105⟩ := bind_some hj105
                                  refine TO.s rfl rfl rfl (StepS.idx rfl rfl (OwnS.rd (Ent.at 6 rfl)) ksliceB_67_161_5_true (idx_spec hx218).1 (idxm_lt hx218)) ?_
                                  refine TO.s rfl rfl rfl (StepS.ptrf rfl kfieldB_161_2_2_true) ?_
                                  refine TO.stO (i := x89.2.1.toNat) (off := 2) (us := [I x53]) 6 (x217.1, x217.2.1, x53, x217.2.2.2.1, x217.2.2.2.2) rfl rfl rfl ksizeB_3_1_true rfl rfl rfl (idx_spec hx218).2 rfl (by simp [Value.oneCell']) rfl ?_
                                  refine TO.code ?_
                                  refine TC.k ?_
                                  refine TC.region ?_
                                  refine TO.s rfl rfl rfl (StepS.move rfl) ?_
                                  refine TO.s rfl rfl rfl (StepS.move rfl) ?_
                                  refine TO.s rfl rfl rfl (StepS.move rfl) ?_
                                  refine TO.s rfl rfl rfl (StepS.move rfl) ?_
                                  obtain ⟨x219, hx220, hj105⟩ := bind_some hj105
                                  refine TO.s rfl rfl rfl (StepS.idx rfl rfl (OwnS.rd (Ent.at 4 rfl)) ksliceB_22_3_1_true (idx_spec hx220).1 (idxm_lt hx220)) ?_
                                  refine TO.s rfl rfl rfl (StepS.ld0 rfl (OwnS.rd (Ent.at 4 rfl)) kscalB_3_true rfl (idxm hx220) rfl) ?_
                                  obtain ⟨x221, hx222, hj105⟩ := bind_some hj105
                                  refine TO.s rfl rfl rfl (StepS.idx rfl rfl (OwnS.rd (Ent.at 6 rfl)) ksliceB_67_161_5_true (idx_spec hx222).1 (idxm_lt hx222)) ?_
                                  refine TO.s rfl rfl rfl (StepS.ptrf rfl kfieldB_161_4_4_true) ?_
                                  refine TO.stO (i := x89.2.1.toNat) (off := 4) (us := [I x219]) 6 (x221.1, x221.2.1, x221.2.2.1, x221.2.2.2.1, x219) rfl rfl rfl ksizeB_3_1_true rfl rfl rfl (idx_spec hx222).2 rfl (by simp [Value.oneCell']) rfl ?_
                                  refine TO.code ?_
                                  refine TC.region_any (SS 22 3 1 cI v28 (hs161.set x89.2.1.toNat (.slice none 0 0)) (y160.set x89.2.1.toNat ([] : List (Int))) :: Bx b91 106 [I x89.1, I x89.2.1, I x89.2.2.1, I x89.2.2.2] :: OwnS 28 1 v38 (y40.map cI) :: OwnS 3 1 v36 (y172.map cI) :: OwnS 3 1 v32 (y173.map cI) :: OwnS 161 5 v24 (((y48.set x89.2.1.toNat (x217.1, x217.2.1, x53, x217.2.2.2.1, x217.2.2.2.2)).set x89.2.1.toNat (x221.1, x221.2.1, x221.2.2.1, x221.2.2.2.1, x219)).map cTiiibi) :: OwnS 3 1 v20 ((y49.set x89.2.1.toNat 0).map cI) :: OwnS 4 1 v16 (y50.map cB) :: OwnS 3 1 v7 (y193.map cI) :: OwnS 3 1 v10 (y194.map cI) :: Bx bq6_5_1 69 [v38, v41, v7, v10] :: Bx b5 69 [.slice none 0 0, .slice none 0 0, .slice none 0 0, .slice none 0 0] :: L) 9 10 kfollows_mixedOrders_true rfl ?_
                                  refine TA.takeW 0 rfl rfl rfl rfl (StepS.fld rfl kfieldB_69_1_1_true) (by kernel_rfl) (by kernel_rfl) (by kernel_rfl) rfl (.inr (fun _ s => Sat.by [12, 12, 12, 12, 12, 12, 12, 12, 12, 11, 11, 11] 12 1 (by kernel_rfl) s)) ?_
                                  refine TA.take 1 rfl rfl rfl rfl (StepS.ldB rfl (Ent.at 10 rfl) kscalB_67_true rfl) (by kernel_rfl) (by kernel_rfl) (by kernel_rfl) (by kernel_rfl) (by kernel_rfl) (fun _ s => Sat.by [12, 12, 12, 12, 12, 12, 12, 12, 12, 11, 11, 11] 12 1 (by kernel_rfl) s) ?_
                                  refine TA.takeW 2 rfl rfl rfl rfl (StepS.move rfl) (by kernel_rfl) (by kernel_rfl) (by kernel_rfl) rfl (.inr (fun _ s => Sat.by [12, 12, 12, 12, 12, 12, 12, 12, 12, 11, 11, 11] 12 1 (by kernel_rfl) s)) ?_
                                  refine TA.takeW 3 rfl rfl rfl rfl (StepS.move rfl) (by kernel_rfl) (by kernel_rfl) (by kernel_rfl) rfl (.inr (fun _ s => Sat.by [12, 12, 12, 12, 12, 12, 12, 12, 12, 11, 11, 11] 12 1 (by kernel_rfl) s)) ?_
                                  obtain ⟨xq223_4_1, hxq223_4_2, hj105⟩ := bind_some hj105
                                  refine TA.take 4 rfl rfl rfl rfl (StepS.idx rfl rfl (OwnS.rd (Ent.at 5 rfl)) ksliceB_67_161_5_true (idx_spec hxq223_4_2).1 (idxm_lt hxq223_4_2)) (by kernel_rfl) (by kernel_rfl) (by kernel_rfl) (by kernel_rfl) (by kernel_rfl) (fun _ s => Sat.by [12, 12, 12, 12, 12, 12, 12, 12, 12, 11, 11, 11] 12 1 (by kernel_rfl) s) ?_
                                  refine TA.take 5 rfl rfl rfl rfl (StepS.ldE rfl (OwnS.rd (Ent.at 5 rfl)) kaggB_161_5_true rfl (idxm hxq223_4_2)) (by kernel_rfl) (by kernel_rfl) (by kernel_rfl) (by kernel_rfl) (by kernel_rfl) (fun _ s => Sat.by [12, 12, 12, 12, 12, 12, 12, 12, 12, 11, 11, 11] 12 1 (by kernel_rfl) s) ?_
                                  refine TA.all1 (i := 6) (by kernel_rfl) ?_
                                  refine TB.of rfl ?_
                                  refine TO.litS (f := cTiiibi) ([xq223_4_1] : List (Int × Int × Int × Bool × Int)) kelemB_67_161_5_40_true kinfo_161_bind_zero_some_agg_I_0_I_0_I_0_bool_false_I_0 rfl rfl (fun _ => rfl) rfl rfl (by kernel_rfl) rfl fun vq223_6_1 => ?_
                                  refine TA.back (.inr (fun _ s => Sat.by [13, 13, 13, 13, 13, 13, 13, 13, 13, 12, 12, 12] 12 2 (by kernel_rfl) s)) ?_
                                  refine TA.asL (L' := (OwnS 161 5 vq223_6_1 (([xq223_4_1] : List (Int × Int × Int × Bool × Int)).map cTiiibi) :: SS 22 3 1 cI v28 (hs161.set x89.2.1.toNat (.slice none 0 0)) (y160.set x89.2.1.toNat ([] : List (Int))) :: Bx b91 106 [I x89.1, I x89.2.1, I x89.2.2.1, I x89.2.2.2] :: OwnS 28 1 v38 (y40.map cI) :: OwnS 161 5 v41 (y43.map cTiiibi) :: OwnS 3 1 v36 (y172.map cI) :: OwnS 3 1 v32 (y173.map cI) :: OwnS 161 5 v24 (((y48.set x89.2.1.toNat (x217.1, x217.2.1, x53, x217.2.2.2.1, x217.2.2.2.2)).set x89.2.1.toNat (x221.1, x221.2.1, x221.2.2.1, x221.2.2.2.1, x219)).map cTiiibi) :: OwnS 3 1 v20 ((y49.set x89.2.1.toNat 0).map cI) :: OwnS 4 1 v16 (y50.map cB) :: OwnS 3 1 v7 (y193.map cI) :: OwnS 3 1 v10 (y194.map cI) :: Bx bq6_5_1 69 [v38, v41, v7, v10] :: Bx b5 69 [.slice none 0 0, .slice none 0 0, .slice none 0 0, .slice none 0 0] :: L)) (listed' := #[true, true, true, true, true, true, true, false, false, false]) (by kernel_rfl) (by kernel_rfl) ?_
                                  refine TA.all1 (i := 7) (by kernel_rfl) ?_
                                  refine TB.of rfl ?_
                                  obtain ⟨yq223_7_1, hkq223_7_2, hj105⟩ := bind_some hj105
                                  refine TO.app (k := 4) (f := cTiiibi) kelemB_67_161_5_40_true (by decide) rfl rfl rfl (OwnS.rd (Ent.at 0 rfl)) hkq223_7_2 (fun x c hc => by simp [Value.oneCell'] at hc ⊢; first | (obtain rfl := hc; rfl) | (rcases hc with rfl | rfl | rfl | rfl | rfl <;> rfl)) rfl rfl fun vq223_7_3 => ?_
                                  refine TA.back (.inr (fun _ s => Sat.by [13, 13, 13, 13, 13, 13, 13, 13, 13, 12, 12, 12] 12 2 (by kernel_rfl) s)) ?_
                                  refine TA.asL (L' := (OwnS 161 5 vq223_6_1 (([xq223_4_1] : List (Int × Int × Int × Bool × Int)).map cTiiibi) :: SS 22 3 1 cI v28 (hs161.set x89.2.1.toNat (.slice none 0 0)) (y160.set x89.2.1.toNat ([] : List (Int))) :: Bx b91 106 [I x89.1, I x89.2.1, I x89.2.2.1, I x89.2.2.2] :: OwnS 28 1 v38 (y40.map cI) :: OwnS 161 5 vq223_7_3 (yq223_7_1.map cTiiibi) :: OwnS 3 1 v36 (y172.map cI) :: OwnS 3 1 v32 (y173.map cI) :: OwnS 161 5 v24 (((y48.set x89.2.1.toNat (x217.1, x217.2.1, x53, x217.2.2.2.1, x217.2.2.2.2)).set x89.2.1.toNat (x221.1, x221.2.1, x221.2.2.1, x221.2.2.2.1, x219)).map cTiiibi) :: OwnS 3 1 v20 ((y49.set x89.2.1.toNat 0).map cI) :: OwnS 4 1 v16 (y50.map cB) :: OwnS 3 1 v7 (y193.map cI) :: OwnS 3 1 v10 (y194.map cI) :: Bx bq6_5_1 69 [v38, v41, v7, v10] :: Bx b5 69 [.slice none 0 0, .slice none 0 0, .slice none 0 0, .slice none 0 0] :: L)) (listed' := #[true, true, true, true, true, true, true, true, false, false]) (by kernel_rfl) (by kernel_rfl) ?_
                                  refine TA.takeW 8 rfl rfl rfl rfl (StepS.fld rfl kfieldB_69_1_1_true) (by kernel_rfl) (by kernel_rfl) (by kernel_rfl) rfl (.inr (fun _ s => Sat.by [13, 13, 13, 13, 13, 13, 13, 13, 13, 12, 12, 12] 12 2 (by kernel_rfl) s)) ?_
                                  refine TA.all1 (i := 9) (by kernel_rfl) ?_
                                  refine TB.of rfl ?_
                                  refine TO.pure (fun _ s => Rd.one (OwnS.rd (Ent.at 4 rfl)) s) fun ocq223_9_1 => ?_
                                  refine TO.stB (us := [vq223_7_3]) 12 [v38, vq223_7_3, v7, v10] rfl rfl rfl ksizeB_67_1_true ocq223_9_1.2 rfl rfl (by intro u hu; simp only [List.mem_cons, List.not_mem_nil, or_false] at hu; rcases hu with rfl <;> first | exact ocq223_9_1.1 | rfl) rfl ?_
                                  refine TA.back (.inl (by kernel_rfl)) ?_
                                  refine TA.asL (L' := (OwnS 161 5 vq223_6_1 (([xq223_4_1] : List (Int × Int × Int × Bool × Int)).map cTiiibi) :: SS 22 3 1 cI v28 (hs161.set x89.2.1.toNat (.slice none 0 0)) (y160.set x89.2.1.toNat ([] : List (Int))) :: Bx b91 106 [I x89.1, I x89.2.1, I x89.2.2.1, I x89.2.2.2] :: OwnS 28 1 v38 (y40.map cI) :: OwnS 161 5 vq223_7_3 (yq223_7_1.map cTiiibi) :: OwnS 3 1 v36 (y172.map cI) :: OwnS 3 1 v32 (y173.map cI) :: OwnS 161 5 v24 (((y48.set x89.2.1.toNat (x217.1, x217.2.1, x53, x217.2.2.2.1, x217.2.2.2.2)).set x89.2.1.toNat (x221.1, x221.2.1, x221.2.2.1, x221.2.2.2.1, x219)).map cTiiibi) :: OwnS 3 1 v20 ((y49.set x89.2.1.toNat 0).map cI) :: OwnS 4 1 v16 (y50.map cB) :: OwnS 3 1 v7 (y193.map cI) :: OwnS 3 1 v10 (y194.map cI) :: Bx bq6_5_1 69 [v38, vq223_7_3, v7, v10] :: Bx b5 69 [.slice none 0 0, .slice none 0 0, .slice none 0 0, .slice none 0 0] :: L)) (listed' := #[true, true, true, true, true, true, true, true, true, true]) (by kernel_rfl) (by kernel_rfl) ?_
                                  cases hj105
                                  refine TA.nil (by kernel_rfl) fun a w e s => ?_
                                  exact ⟨vq223_7_3, (hs161.set x89.2.1.toNat (.slice none 0 0)), e.sub (lk_of_allIn ⟨rfl, rfl, rfl, rfl, rfl, rfl, rfl, rfl, rfl, rfl, rfl, rfl, rfl, trivial⟩), s.mono fun _ s => (by exact Sat.by [13, 13, 13, 13, 13, 13, 13, 8, 13, 13, 13, 13, 13] 13 1 (by kernel_rfl) s)⟩
                                · replace hj105 := cond_f hc214 hj105
                                  refine TC.k ?_
                                  refine TC.region ?_
                                  refine TO.s rfl rfl rfl (StepS.move rfl) ?_
                                  refine TO.s rfl rfl rfl (StepS.move rfl) ?_
                                  obtain ⟨x224, hx225, hj105⟩ := bind_some hj105
                                  refine TO.s rfl rfl rfl (StepS.idx rfl rfl (OwnS.rd (Ent.at 7 rfl)) ksliceB_22_3_1_true (idx_spec hx225).1 (idxm_lt hx225)) ?_
                                  refine TO.stO (i := x89.2.1.toNat) (off := 0) (us := [I 2]) 7 2 rfl rfl rfl ksizeB_3_1_true rfl rfl rfl (idx_spec hx225).2 rfl (by simp [Value.oneCell']) rfl ?_
                                  refine TO.code ?_
                                  refine TC.k ?_
                                  refine TC.region ?_
                                  refine TO.s rfl rfl rfl (StepS.move rfl) ?_
                                  refine TO.s rfl rfl rfl (StepS.move rfl) ?_
                                  obtain ⟨x226, hx227, hj105⟩ := bind_some hj105
                                  refine TO.s rfl rfl rfl (StepS.idx rfl rfl (OwnS.rd (Ent.at 6 rfl)) ksliceB_67_161_5_true (idx_spec hx227).1 (idxm_lt hx227)) ?_
                                  refine TO.s rfl rfl rfl (StepS.ptrf rfl kfieldB_161_3_3_true) ?_
                                  refine TO.s rfl rfl rfl (StepS.ld1 rfl (OwnS.rd (Ent.at 6 rfl)) kscalB_4_true rfl (idxm hx227) rfl) ?_
                                  refine TO.code ?_
                                  refine TC.cond rfl (fun hc228 => ?_) (fun hc228 => ?_)
                                  · replace hj105 := cond_t hc228 hj105
                                    refine TC.k ?_
                                    refine TC.region ?_
                                    refine TO.s rfl rfl rfl (StepS.move rfl) ?_
                                    refine TO.s rfl rfl rfl (StepS.move rfl) ?_
                                    obtain ⟨x229, hx230, hj105⟩ := bind_some hj105
                                    refine TO.s rfl rfl rfl (StepS.idx rfl rfl (OwnS.rd (Ent.at 5 rfl)) ksliceB_22_3_1_true (idx_spec hx230).1 (idxm_lt hx230)) ?_
                                    refine TO.s rfl rfl rfl (StepS.ld0 rfl (OwnS.rd (Ent.at 5 rfl)) kscalB_3_true rfl (idxm hx230) rfl) ?_
                                    refine TO.s rfl rfl rfl (StepS.ari rfl rfl rfl) ?_
                                    refine TO.s rfl rfl rfl (StepS.assign rfl) ?_
                                    refine TO.code ?_
                                    refine TC.k ?_
                                    obtain ⟨o234, hw235, hj105⟩ := bind_some hj105
                                    refine TC.loop hw235 (fun x231 => fun a w => Mid 315 B [(0, I a0), (4, .pointer (some ⟨b5, 0, none⟩)), (5, .pointer (some ⟨bq6_5_1, 0, none⟩)), (6, v16), (7, v20), (8, v24), (9, v28), (10, v32), (11, v36), (14, I 0), (15, I x89.2.1), (16, I x231), (29, h1), (30, I (a1.length : Int)), (31, I x53)] (SS 22 3 1 cI v28 (hs161.set x89.2.1.toNat (.slice none 0 0)) (y160.set x89.2.1.toNat ([] : List (Int))) :: Bx b91 106 [I x89.1, I x89.2.1, I x89.2.2.1, I x89.2.2.2] :: OwnS 28 1 v38 (y40.map cI) :: OwnS 161 5 v41 (y43.map cTiiibi) :: OwnS 3 1 v36 (y172.map cI) :: OwnS 3 1 v32 (y173.map cI) :: OwnS 161 5 v24 (y48.map cTiiibi) :: OwnS 3 1 v20 ((y49.set x89.2.1.toNat 2).map cI) :: OwnS 4 1 v16 (y50.map cB) :: OwnS 3 1 v7 (y193.map cI) :: OwnS 3 1 v10 (y194.map cI) :: Bx bq6_5_1 69 [v38, v41, v7, v10] :: Bx b5 69 [.slice none 0 0, .slice none 0 0, .slice none 0 0, .slice none 0 0] :: L) a w) (fun x233 => fun a w => Mid 315 B [(0, I a0), (4, .pointer (some ⟨b5, 0, none⟩)), (5, .pointer (some ⟨bq6_5_1, 0, none⟩)), (6, v16), (7, v20), (8, v24), (9, v28), (10, v32), (11, v36), (14, I 0), (15, I x89.2.1), (16, I x233), (29, h1), (30, I (a1.length : Int)), (31, I x53)] (SS 22 3 1 cI v28 (hs161.set x89.2.1.toNat (.slice none 0 0)) (y160.set x89.2.1.toNat ([] : List (Int))) :: Bx b91 106 [I x89.1, I x89.2.1, I x89.2.2.1, I x89.2.2.2] :: OwnS 28 1 v38 (y40.map cI) :: OwnS 161 5 v41 (y43.map cTiiibi) :: OwnS 3 1 v36 (y172.map cI) :: OwnS 3 1 v32 (y173.map cI) :: OwnS 161 5 v24 (y48.map cTiiibi) :: OwnS 3 1 v20 ((y49.set x89.2.1.toNat 2).map cI) :: OwnS 4 1 v16 (y50.map cB) :: OwnS 3 1 v7 (y193.map cI) :: OwnS 3 1 v10 (y194.map cI) :: Bx bq6_5_1 69 [v38, v41, v7, v10] :: Bx b5 69 [.slice none 0 0, .slice none 0 0, .slice none 0 0, .slice none 0 0] :: L) a w) (fun (_ : Unit) _ _ => False) ?_ ?_ ?_ ?_
                                    · rintro x231 o234r hb236 a w ⟨he, hs⟩
                                      dsimp only [F34_L1] at hb236
                                      refine TC.use ?_ he hs
                                      refine TC.k ?_
                                      refine TC.k ?_
                                      refine TC.region ?_
                                      refine TO.s rfl rfl rfl (StepS.move rfl) ?_
                                      refine TO.s rfl rfl rfl (StepS.rem rfl rfl (by decide)) ?_
                                      refine TO.s rfl rfl rfl (StepS.move rfl) ?_
                                      refine TO.s rfl rfl rfl (StepS.cmp rfl rfl rfl) ?_
                                      refine TO.code ?_
                                      refine TC.cond rfl (fun hc237 => ?_) (fun hc237 => ?_)
                                      · replace hb236 := cond_t hc237 hb236
                                        refine TC.skipk ?_
                                        refine TC.block ?_
                                        refine TC.region ?_
                                        refine TO.s rfl rfl rfl (StepS.move rfl) ?_
                                        refine TO.s rfl rfl rfl (StepS.ari rfl rfl rfl) ?_
                                        refine TO.s rfl rfl rfl (StepS.assign rfl) ?_
                                        cases hb236
                                        refine TO.nil fun a w e s => ?_
                                        exact ⟨e.sub (lk_of_allIn ⟨rfl, rfl, rfl, rfl, rfl, rfl, rfl, rfl, rfl, rfl, rfl, rfl, rfl, rfl, rfl, trivial⟩), s⟩
                                      · replace hb236 := cond_f hc237 hb236
                                        cases hb236
                                        refine TC.exit rfl fun a w e s => ?_
                                        exact ⟨e.sub (lk_of_allIn ⟨rfl, rfl, rfl, rfl, rfl, rfl, rfl, rfl, rfl, rfl, rfl, rfl, rfl, rfl, rfl, trivial⟩), s⟩
                                    · exact fun a w e s => ⟨e.sub (lk_of_allIn ⟨rfl, rfl, rfl, rfl, rfl, rfl, rfl, rfl, rfl, rfl, rfl, rfl, rfl, rfl, rfl, trivial⟩), s⟩
                                    · rintro x233 rfl a w ⟨he, hs⟩
                                      dsimp only [Ctl.on] at hj105
                                      refine TC.use ?_ he hs
                                      refine TC.k ?_
                                      refine TC.region ?_
                                      refine TO.s rfl rfl rfl (StepS.move rfl) ?_
                                      refine TO.s rfl rfl rfl (StepS.move rfl) ?_
                                      refine TO.s rfl rfl rfl (StepS.move rfl) ?_
                                      obtain ⟨x238, hx239, hj105⟩ := bind_some hj105
                                      refine TO.s rfl rfl rfl (StepS.idx rfl rfl (OwnS.rd (Ent.at 5 rfl)) ksliceB_22_3_1_true (idx_spec hx239).1 (idxm_lt hx239)) ?_
                                      refine TO.stO (i := x89.2.1.toNat) (off := 0) (us := [I x233]) 5 x233 rfl rfl rfl ksizeB_3_1_true rfl rfl rfl (idx_spec hx239).2 rfl (by simp [Value.oneCell']) rfl ?_
                                      refine TO.code ?_
                                      refine TC.region ?_
                                      refine TO.s rfl rfl rfl (StepS.move rfl) ?_
                                      refine TO.s rfl rfl rfl (StepS.move rfl) ?_
                                      refine TO.s rfl rfl rfl (StepS.move rfl) ?_
                                      refine TO.s rfl rfl rfl (StepS.move rfl) ?_
                                      obtain ⟨x240, hx241, hj105⟩ := bind_some hj105
                                      refine TO.s rfl rfl rfl (StepS.idx rfl rfl (OwnS.rd (Ent.at 6 rfl)) ksliceB_67_161_5_true (idx_spec hx241).1 (idxm_lt hx241)) ?_
                                      refine TO.s rfl rfl rfl (StepS.ptrf rfl kfieldB_161_4_4_true) ?_
                                      refine TO.s rfl rfl rfl (StepS.ld1 rfl (OwnS.rd (Ent.at 6 rfl)) kscalB_3_true rfl (idxm hx241) rfl) ?_
                                      obtain ⟨x242, hx243, hj105⟩ := bind_some hj105
                                      refine TO.s rfl rfl rfl (StepS.idx rfl rfl (OwnS.rd (Ent.at 4 rfl)) ksliceB_22_3_1_true (idx_spec hx243).1 (idxm_lt hx243)) ?_
                                      refine TO.stO (i := x89.2.1.toNat) (off := 0) (us := [I x240.2.2.2.2]) 4 x240.2.2.2.2 rfl rfl rfl ksizeB_3_1_true rfl rfl rfl (idx_spec hx243).2 rfl (by simp [Value.oneCell']) rfl ?_
                                      cases hj105
                                      refine TO.nil fun a w e s => ?_
                                      exact ⟨v41, (hs161.set x89.2.1.toNat (.slice none 0 0)), e.sub (lk_of_allIn ⟨rfl, rfl, rfl, rfl, rfl, rfl, rfl, rfl, rfl, rfl, rfl, rfl, rfl, trivial⟩), s.mono fun _ s => (by exact Sat.by [12, 12, 12, 12, 12, 12, 12, 7, 12, 12, 12, 12, 12] 13 0 (by kernel_rfl) s)⟩
                                    · rintro r rfl
                                      exact fun a w h => h.elim
                                  · replace hj105 := cond_f hc228 hj105
                                    cases hj105
                                    refine TC.skip fun a w e s => ?_
                                    exact ⟨v41, (hs161.set x89.2.1.toNat (.slice none 0 0)), e.sub (lk_of_allIn ⟨rfl, rfl, rfl, rfl, rfl, rfl, rfl, rfl, rfl, rfl, rfl, rfl, rfl, trivial⟩), s.mono fun _ s => (by exact Sat.by [12, 12, 12, 12, 12, 12, 12, 7, 12, 12, 12, 12, 12] 13 0 (by kernel_rfl) s)⟩
                              · replace hj105 := cond_f hc208 hj105
                                cases hj105
                                refine TC.skip fun a w e s => ?_
                                exact ⟨v41, hs161, e.sub (lk_of_allIn ⟨rfl, rfl, rfl, rfl, rfl, rfl, rfl, rfl, rfl, rfl, rfl, rfl, rfl, trivial⟩), s⟩
        · intro a w ⟨v94, hs98, he, hs⟩
          refine TC.use ?_ he hs
          refine TC.region ?_
          refine TO.s rfl rfl rfl (StepS.fld rfl kfieldB_69_0_0_true) ?_
          refine TO.s rfl rfl rfl (StepS.ldB rfl (Ent.at 11 rfl) kscalB_24_true rfl) ?_
          refine TO.s rfl rfl rfl (StepS.move rfl) ?_
          refine TO.litS (f := cI) ([x104] : List Int) kelemB_24_28_1_8_true kinfo_28_bind_zero_some_I_0 rfl rfl (fun _ => rfl) rfl rfl (by kernel_rfl) rfl fun v244 => ?_
          obtain ⟨y246, hk247, hb87⟩ := bind_some hb87
          refine TO.app (k := 2) (f := cI) kelemB_24_28_1_8_true (by decide) rfl rfl rfl (OwnS.rd (Ent.at 0 rfl)) hk247 (fun x c hc => by simp [Value.oneCell'] at hc ⊢; first | (obtain rfl := hc; rfl) | (rcases hc with rfl <;> rfl)) rfl rfl fun v248 => ?_
          refine TO.s rfl rfl rfl (StepS.fld rfl kfieldB_69_0_0_true) ?_
          refine TO.pure (fun _ s => Rd.one (OwnS.rd (Ent.at 2 rfl)) s) fun oc249 => ?_
          refine TO.stB (us := [v248]) 12 [v248, v94, v7, v10] rfl rfl rfl ksizeB_24_1_true oc249.2 rfl rfl (by intro u hu; simp only [List.mem_cons, List.not_mem_nil, or_false] at hu; rcases hu with rfl <;> first | exact oc249.1 | rfl) rfl ?_
          refine TO.code ?_
          refine TC.region ?_
          refine TO.s rfl rfl rfl (StepS.ari rfl rfl rfl) ?_
          refine TO.s rfl rfl rfl (StepS.move rfl) ?_
          cases hb87
          refine TO.nil fun a w e s => ?_
          exact ⟨v248, v94, hs98, e.sub (lk_of_allIn ⟨rfl, rfl, rfl, rfl, rfl, rfl, rfl, rfl, rfl, rfl, rfl, rfl, trivial⟩), s.mono fun _ => Sat.dropN 2⟩
      · replace hb87 := cond_f hc88 hb87
        cases hb87
        refine TC.exit rfl fun a w e s => ?_
        exact ⟨v38, v41, hs47, e.sub (lk_of_allIn ⟨rfl, rfl, trivial⟩), s⟩
    · exact fun a w e s => ⟨.slice none 0 0, .slice none 0 0, (y26.map fun _ => nilv), e.sub (lk_of_allIn ⟨rfl, rfl, rfl, rfl, rfl, rfl, rfl, rfl, rfl, rfl, rfl, rfl, trivial⟩), s.mono fun _ s => (by replace s := Sat.nilS (e := 161) (sz := 5) (f := cTiiibi) s; replace s := Sat.nilS (e := 28) (sz := 1) (f := cI) s; exact Sat.by [11, 11, 11, 11, 11, 11, 11, 11, 11, 11, 11, 11] 12 0 (by kernel_rfl) s)⟩
    · rintro ⟨y72, y75, y76, y77, y78, y80, y81, y82, y83, y84⟩ rfl a w ⟨v70, v73, hs79, he, hs⟩
      dsimp only [Ctl.on] at hm
      refine TC.use ?_ he hs
      refine TC.k ?_
      refine TC.region ?_
      refine TO.s rfl rfl rfl (StepS.ldBA rfl (Ent.at 10 rfl) kaggB_69_4_true rfl rfl) ?_
      refine TO.pure (fun _ s => Rd.one (OwnS.rd (Ent.at 0 rfl)) s) fun oc250 => ?_
      refine TO.pure (fun _ s => Rd.one (OwnS.rd (Ent.at 1 rfl)) s) fun oc251 => ?_
      refine TO.pure (fun _ s => Rd.one (OwnS.rd (Ent.at 8 rfl)) s) fun oc252 => ?_
      refine TO.pure (fun _ s => Rd.one (OwnS.rd (Ent.at 9 rfl)) s) fun oc253 => ?_
      refine TO.stB (us := [v70, v73, v7, v10]) 11 [v70, v73, v7, v10] rfl rfl rfl ksizeB_69_4_true rfl rfl rfl (by intro u hu; simp only [List.mem_cons, List.not_mem_nil, or_false] at hu; rcases hu with rfl | rfl | rfl | rfl <;> first | exact oc250.1 | exact oc251.1 | exact oc252.1 | exact oc253.1 | rfl) rfl ?_
      refine TO.code ?_
      cases hm
      refine TC.ret fun a w e s => ?_
      refine FRet.cell1 (P := Try.prog) (fn := Try.f34) e s rfl rfl (Ent.at 11 rfl) kaggB_69_4_true rfl ?_
      refine ⟨_, _, rfl, ⟨(v70), (v73), (v7), (v10), rfl, rfl⟩, ?_⟩
      refine s.mono fun _ s => ?_
      replace s := Sat.front 9 rfl s
      replace s := Sat.front 9 rfl s
      replace s := Sat.front 3 rfl s
      replace s := Sat.front 3 rfl s
      replace s := Sat.erase 4 s
      replace s := Sat.erase 4 s
      replace s := Sat.erase 4 s
      replace s := Sat.erase 4 s
      replace s := Sat.erase 4 s
      replace s := Sat.erase 4 s
      replace s := Sat.erase 4 s
      replace s := Sat.erase 4 s
      exact s
    · rintro r rfl
      exact fun a w h => h.elim
end Go.Proofs.Ythfkdepcnhhepaa
