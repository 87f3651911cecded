/-
  The walks: each Go function returns what its model says. Written by a program (gen.py).
-/
import Derived.Test.YthfkdepcnhhepaaProg
import Derived.KernelRfl
import Derived.Test.YthfkdepcnhhepaaXW
import Derived.Test.YthfkdepcnhhepaaYM
namespace Go.Proofs.Ythfkdepcnhhepaa
open Go Go.Bk
set_option linter.unusedVariables false
set_option linter.unnecessarySimpa false
theorem kelemB_127_129_4_32_true : elemB Try.prog 127 129 4 32 = true := by kernel_rfl
theorem kinfo_129_bind_zero_some_agg_I_0_I_0_I_0_I_0 : (Try.prog.info? 129).bind (·.zero) = some (.agg #[I 0, I 0, I 0, I 0]) := by kernel_rfl
theorem ksizeB_129_4_true : sizeB Try.prog 129 4 = true := by kernel_rfl
theorem ksliceB_127_129_4_true : sliceB Try.prog 127 129 4 = true := by kernel_rfl
theorem kfieldB_129_2_2_true : fieldB Try.prog 129 2 2 = true := by kernel_rfl
theorem kfieldB_129_3_3_true : fieldB Try.prog 129 3 3 = true := by kernel_rfl
theorem kelemB_85_114_2_16_true : elemB Try.prog 85 114 2 16 = true := by kernel_rfl
theorem kinfo_114_bind_zero_some_agg_I_0_I_0 : (Try.prog.info? 114).bind (·.zero) = some (.agg #[I 0, I 0]) := by kernel_rfl
theorem ksliceB_85_114_2_true : sliceB Try.prog 85 114 2 = true := by kernel_rfl
theorem kaggB_114_2_true : aggB Try.prog 114 2 = true := by kernel_rfl
theorem ksizeB_114_2_true : sizeB Try.prog 114 2 = true := by kernel_rfl
theorem karrB_114_2_3_1_true : arrB Try.prog 114 2 3 1 = true := by kernel_rfl
theorem kaggB_129_4_true : aggB Try.prog 129 4 = true := by kernel_rfl
theorem kfieldB_129_1_1_true : fieldB Try.prog 129 1 1 = true := by kernel_rfl

set_option maxHeartbeats 4000000 in
set_option maxRecDepth 100000 in
theorem C24 {B : World} {L : List HP} {a0 : Int} {a1 : List (Int × Int × Int × Int)} {h1 : Value} {r0 : (List Int) × Int × (List Int) × (List Int) × List Int} (e1 : Ent L (Rd 4 h1 (a1.map cTiiii))) (hm : F24 a0 a1 = some r0) {w : World} (st : St B L w) : Calls Try.prog 24 #[I a0, h1] w (fun e w' => ∃ v M, e = .returned v ∧ (∃ (qv1 : Value) (qv2 : Value) (qv3 : Value) (qv4 : Value), v = .agg #[qv1, I r0.2.1, qv2, qv3, qv4] ∧ M = (OwnS 28 1 qv1 (r0.1.map cI) :: OwnS 3 1 qv2 (r0.2.2.1.map cI) :: OwnS 3 1 qv3 (r0.2.2.2.1.map cI) :: OwnS 3 1 qv4 (r0.2.2.2.2.map cI) :: L)) ∧ St B M w') := by
  refine calls_of (N := 218) (L := L) (args := [I a0, h1]) Try.func24 rfl rfl rfl ?_ st
  dsimp only [F24] at hm
  refine TC.k ?_
  refine TC.region ?_
  refine TO.alloc kinfo_45_bind_zero_some_agg_slice_none_0_0_I_0_slice_none_0_0_slice_none_0_0_slice_none_0_0 rfl rfl fun b5 => ?_
  refine TO.code ?_
  refine TC.k ?_
  obtain ⟨⟨y9, y12, y15⟩, hj16, hm⟩ := bind_some hm
  first | refine TC.cutM (fun a w => ∃ v7 : Value, ∃ v10 : Value, ∃ v13 : Value, ∃ bq6_7_1 : Nat, Mid 218 B [(0, I a0), (1, h1), (4, .pointer (some ⟨b5, 0, none⟩)), (5, .pointer (some ⟨bq6_7_1, 0, none⟩))] (OwnS 3 1 v7 (y9.map cI) :: OwnS 3 1 v10 (y12.map cI) :: OwnS 3 1 v13 (y15.map cI) :: Bx bq6_7_1 45 [.slice none 0 0, I (-1), v7, v10, v13] :: Bx b5 45 [.slice none 0 0, I 0, .slice none 0 0, .slice none 0 0, .slice none 0 0] :: L) a w) ?_ ?_ | refine TC.cutX (fun a w => ∃ v7 : Value, ∃ v10 : Value, ∃ v13 : Value, ∃ bq6_7_1 : Nat, Mid 218 B [(0, I a0), (1, h1), (4, .pointer (some ⟨b5, 0, none⟩)), (5, .pointer (some ⟨bq6_7_1, 0, none⟩))] (OwnS 3 1 v7 (y9.map cI) :: OwnS 3 1 v10 (y12.map cI) :: OwnS 3 1 v13 (y15.map cI) :: Bx bq6_7_1 45 [.slice none 0 0, I (-1), v7, v10, v13] :: Bx b5 45 [.slice none 0 0, I 0, .slice none 0 0, .slice none 0 0, .slice none 0 0] :: L) a w) ?_ ?_
  · obtain ⟨yq6_1_1, hkq6_1_2, hj16⟩ := bind_some hj16
    obtain ⟨yq6_3_1, hkq6_3_2, hj16⟩ := bind_some hj16
    obtain ⟨yq6_5_1, hkq6_5_2, hj16⟩ := bind_some hj16
    refine TC.region_any (Bx b5 45 [.slice none 0 0, I 0, .slice none 0 0, .slice none 0 0, .slice none 0 0] :: L) 8 9 kfollows_mixedOrders_true rfl ?_
    refine TA.takeW 0 rfl rfl rfl rfl (StepS.move rfl) (by kernel_rfl) (by kernel_rfl) (by kernel_rfl) rfl (.inr (fun _ s => s)) ?_
    refine TA.takeW 2 rfl rfl rfl rfl (StepS.move rfl) (by kernel_rfl) (by kernel_rfl) (by kernel_rfl) rfl (.inr (fun _ s => s)) ?_
    refine TA.takeW 4 rfl rfl rfl rfl (StepS.move rfl) (by kernel_rfl) (by kernel_rfl) (by kernel_rfl) rfl (.inr (fun _ s => s)) ?_
    refine TA.all4 (i := 1) (j := 3) (k := 5) (m := 7) (by kernel_rfl) ?_ ?_ ?_ ?_
    · refine TB.of rfl ?_
      refine TO.mkS (f := cI) (za := 0) kelemB_22_3_1_8_true kinfo_3_bind_zero_some_I_0 rfl (by decide) rfl rfl hkq6_1_2 rfl fun vq6_1_3 => ?_
      refine TA.back (.inr (fun _ s => by replace s := Sat.front 1 rfl s; replace s := Sat.erase 1 s; exact s)) ?_
      refine TA.all3 (i := 3) (j := 5) (k := 7) (by kernel_rfl) ?_ ?_ ?_
      · refine TB.of rfl ?_
        refine TO.mkS (f := cI) (za := 0) kelemB_22_3_1_8_true kinfo_3_bind_zero_some_I_0 rfl (by decide) rfl rfl hkq6_3_2 rfl fun vq6_3_3 => ?_
        refine TA.back (.inr (fun _ s => by replace s := Sat.front 2 rfl s; replace s := Sat.erase 1 s; replace s := Sat.erase 1 s; exact s)) ?_
        refine TA.all2 (i := 5) (j := 7) (by kernel_rfl) ?_ ?_
        · refine TB.of rfl ?_
          refine TO.mkS (f := cI) (za := 0) kelemB_22_3_1_8_true kinfo_3_bind_zero_some_I_0 rfl (by decide) rfl rfl hkq6_5_2 rfl fun vq6_5_3 => ?_
          refine TA.back (.inr (fun _ s => by replace s := Sat.front 3 rfl s; replace s := Sat.erase 1 s; replace s := Sat.erase 1 s; replace s := Sat.erase 1 s; exact s)) ?_
          refine TA.all2 (i := 6) (j := 7) (by kernel_rfl) ?_ ?_
          · refine TB.of rfl ?_
            refine TO.pure (fun _ s => Rd.one (OwnS.rd (Ent.at 2 rfl)) s) fun ocq6_6_1 => ?_
            refine TO.pure (fun _ s => Rd.one (OwnS.rd (Ent.at 1 rfl)) s) fun ocq6_6_2 => ?_
            refine TO.pure (fun _ s => Rd.one (OwnS.rd (Ent.at 0 rfl)) s) fun ocq6_6_3 => ?_
            refine TO.s rfl rfl rfl (StepS.buildS (us := [(1, I (-1)), (2, .agg #[vq6_1_3]), (3, .agg #[vq6_3_3]), (4, .agg #[vq6_5_3])]) (cs := [.slice none 0 0, I (-1), vq6_1_3, vq6_3_3, vq6_5_3]) rfl (by simp only [List.map_cons, List.map_nil, ocq6_6_1.2, ocq6_6_2.2, ocq6_6_3.2] <;> rfl) (by kernel_rfl)) ?_
            refine TA.back (.inr (fun _ s => by replace s := Sat.front 3 rfl s; replace s := Sat.erase 1 s; replace s := Sat.erase 1 s; replace s := Sat.erase 1 s; exact s)) ?_
            refine TA.all1 (i := 7) (by kernel_rfl) ?_
            refine TB.of rfl ?_
            refine TO.alloc kinfo_45_bind_zero_some_agg_slice_none_0_0_I_0_slice_none_0_0_slice_none_0_0_slice_none_0_0 rfl rfl fun bq6_7_1 => ?_
            refine TA.back (.inr (fun _ s => by replace s := Sat.front 4 rfl s; replace s := Sat.erase 1 s; replace s := Sat.erase 1 s; replace s := Sat.erase 1 s; replace s := Sat.erase 1 s; exact s)) ?_
            refine TA.all1 (i := 8) (by kernel_rfl) ?_
            refine TB.of rfl ?_
            refine TO.pure (fun _ s => Rd.one (OwnS.rd (Ent.at 3 rfl)) s) fun ocq6_8_1 => ?_
            refine TO.pure (fun _ s => Rd.one (OwnS.rd (Ent.at 2 rfl)) s) fun ocq6_8_2 => ?_
            refine TO.pure (fun _ s => Rd.one (OwnS.rd (Ent.at 1 rfl)) s) fun ocq6_8_3 => ?_
            refine TO.stB (us := [.slice none 0 0, I (-1), vq6_1_3, vq6_3_3, vq6_5_3]) 0 [.slice none 0 0, I (-1), vq6_1_3, vq6_3_3, vq6_5_3] rfl rfl rfl ksizeB_45_5_true rfl rfl rfl (by intro u hu; simp only [List.mem_cons, List.not_mem_nil, or_false] at hu; rcases hu with rfl | rfl | rfl | rfl | rfl <;> first | exact ocq6_8_1.1 | exact ocq6_8_2.1 | exact ocq6_8_3.1 | rfl) rfl ?_
            refine TA.back (.inl (by kernel_rfl)) ?_
            cases hj16
            refine TA.nil (by kernel_rfl) fun a w e s => ?_
            exact ⟨vq6_1_3, vq6_3_3, vq6_5_3, bq6_7_1, e.sub (lk_of_allIn ⟨rfl, rfl, rfl, rfl, trivial⟩), s.mono fun _ s => (by replace s := Sat.front 4 rfl s; replace s := Sat.front 1 rfl s; replace s := Sat.front 2 rfl s; replace s := Sat.front 3 rfl s; replace s := Sat.front 4 rfl s; exact s)⟩
          · refine TB.of rfl ?_
            refine TO.alloc kinfo_45_bind_zero_some_agg_slice_none_0_0_I_0_slice_none_0_0_slice_none_0_0_slice_none_0_0 rfl rfl fun bq6_7_1 => ?_
            refine TA.back (.inr (fun _ s => by replace s := Sat.front 4 rfl s; replace s := Sat.erase 1 s; replace s := Sat.erase 1 s; replace s := Sat.erase 1 s; replace s := Sat.erase 1 s; exact s)) ?_
            refine TA.all1 (i := 6) (by kernel_rfl) ?_
            refine TB.of rfl ?_
            refine TO.pure (fun _ s => Rd.one (OwnS.rd (Ent.at 3 rfl)) s) fun ocq6_6_1 => ?_
            refine TO.pure (fun _ s => Rd.one (OwnS.rd (Ent.at 2 rfl)) s) fun ocq6_6_2 => ?_
            refine TO.pure (fun _ s => Rd.one (OwnS.rd (Ent.at 1 rfl)) s) fun ocq6_6_3 => ?_
            refine TO.s rfl rfl rfl (StepS.buildS (us := [(1, I (-1)), (2, .agg #[vq6_1_3]), (3, .agg #[vq6_3_3]), (4, .agg #[vq6_5_3])]) (cs := [.slice none 0 0, I (-1), vq6_1_3, vq6_3_3, vq6_5_3]) rfl (by simp only [List.map_cons, List.map_nil, ocq6_6_1.2, ocq6_6_2.2, ocq6_6_3.2] <;> rfl) (by kernel_rfl)) ?_
            refine TA.back (.inr (fun _ s => by replace s := Sat.front 4 rfl s; replace s := Sat.erase 1 s; replace s := Sat.erase 1 s; replace s := Sat.erase 1 s; replace s := Sat.erase 1 s; exact s)) ?_
            refine TA.all1 (i := 8) (by kernel_rfl) ?_
            refine TB.of rfl ?_
            refine TO.pure (fun _ s => Rd.one (OwnS.rd (Ent.at 3 rfl)) s) fun ocq6_8_1 => ?_
            refine TO.pure (fun _ s => Rd.one (OwnS.rd (Ent.at 2 rfl)) s) fun ocq6_8_2 => ?_
            refine TO.pure (fun _ s => Rd.one (OwnS.rd (Ent.at 1 rfl)) s) fun ocq6_8_3 => ?_
            refine TO.stB (us := [.slice none 0 0, I (-1), vq6_1_3, vq6_3_3, vq6_5_3]) 0 [.slice none 0 0, I (-1), vq6_1_3, vq6_3_3, vq6_5_3] rfl rfl rfl ksizeB_45_5_true rfl rfl rfl (by intro u hu; simp only [List.mem_cons, List.not_mem_nil, or_false] at hu; rcases hu with rfl | rfl | rfl | rfl | rfl <;> first | exact ocq6_8_1.1 | exact ocq6_8_2.1 | exact ocq6_8_3.1 | rfl) rfl ?_
            refine TA.back (.inl (by kernel_rfl)) ?_
            cases hj16
            refine TA.nil (by kernel_rfl) fun a w e s => ?_
            exact ⟨vq6_1_3, vq6_3_3, vq6_5_3, bq6_7_1, e.sub (lk_of_allIn ⟨rfl, rfl, rfl, rfl, trivial⟩), s.mono fun _ s => (by replace s := Sat.front 4 rfl s; replace s := Sat.front 1 rfl s; replace s := Sat.front 2 rfl s; replace s := Sat.front 3 rfl s; replace s := Sat.front 4 rfl s; exact s)⟩
        · refine TB.of rfl ?_
          refine TO.alloc kinfo_45_bind_zero_some_agg_slice_none_0_0_I_0_slice_none_0_0_slice_none_0_0_slice_none_0_0 rfl rfl fun bq6_7_1 => ?_
          refine TA.back (.inr (fun _ s => by replace s := Sat.front 3 rfl s; replace s := Sat.erase 1 s; replace s := Sat.erase 1 s; replace s := Sat.erase 1 s; exact s)) ?_
          refine TA.all1 (i := 5) (by kernel_rfl) ?_
          refine TB.of rfl ?_
          refine TO.mkS (f := cI) (za := 0) kelemB_22_3_1_8_true kinfo_3_bind_zero_some_I_0 rfl (by decide) rfl rfl hkq6_5_2 rfl fun vq6_5_3 => ?_
          refine TA.back (.inr (fun _ s => by replace s := Sat.front 4 rfl s; replace s := Sat.erase 1 s; replace s := Sat.erase 1 s; replace s := Sat.erase 1 s; replace s := Sat.erase 1 s; exact s)) ?_
          refine TA.all1 (i := 6) (by kernel_rfl) ?_
          refine TB.of rfl ?_
          refine TO.pure (fun _ s => Rd.one (OwnS.rd (Ent.at 3 rfl)) s) fun ocq6_6_1 => ?_
          refine TO.pure (fun _ s => Rd.one (OwnS.rd (Ent.at 2 rfl)) s) fun ocq6_6_2 => ?_
          refine TO.pure (fun _ s => Rd.one (OwnS.rd (Ent.at 0 rfl)) s) fun ocq6_6_3 => ?_
          refine TO.s rfl rfl rfl (StepS.buildS (us := [(1, I (-1)), (2, .agg #[vq6_1_3]), (3, .agg #[vq6_3_3]), (4, .agg #[vq6_5_3])]) (cs := [.slice none 0 0, I (-1), vq6_1_3, vq6_3_3, vq6_5_3]) rfl (by simp only [List.map_cons, List.map_nil, ocq6_6_1.2, ocq6_6_2.2, ocq6_6_3.2] <;> rfl) (by kernel_rfl)) ?_
          refine TA.back (.inr (fun _ s => by replace s := Sat.front 4 rfl s; replace s := Sat.erase 1 s; replace s := Sat.erase 1 s; replace s := Sat.erase 1 s; replace s := Sat.erase 1 s; exact s)) ?_
          refine TA.all1 (i := 8) (by kernel_rfl) ?_
          refine TB.of rfl ?_
          refine TO.pure (fun _ s => Rd.one (OwnS.rd (Ent.at 3 rfl)) s) fun ocq6_8_1 => ?_
          refine TO.pure (fun _ s => Rd.one (OwnS.rd (Ent.at 2 rfl)) s) fun ocq6_8_2 => ?_
          refine TO.pure (fun _ s => Rd.one (OwnS.rd (Ent.at 0 rfl)) s) fun ocq6_8_3 => ?_
          refine TO.stB (us := [.slice none 0 0, I (-1), vq6_1_3, vq6_3_3, vq6_5_3]) 1 [.slice none 0 0, I (-1), vq6_1_3, vq6_3_3, vq6_5_3] rfl rfl rfl ksizeB_45_5_true rfl rfl rfl (by intro u hu; simp only [List.mem_cons, List.not_mem_nil, or_false] at hu; rcases hu with rfl | rfl | rfl | rfl | rfl <;> first | exact ocq6_8_1.1 | exact ocq6_8_2.1 | exact ocq6_8_3.1 | rfl) rfl ?_
          refine TA.back (.inl (by kernel_rfl)) ?_
          cases hj16
          refine TA.nil (by kernel_rfl) fun a w e s => ?_
          exact ⟨vq6_1_3, vq6_3_3, vq6_5_3, bq6_7_1, e.sub (lk_of_allIn ⟨rfl, rfl, rfl, rfl, trivial⟩), s.mono fun _ s => (by replace s := Sat.front 4 rfl s; replace s := Sat.front 2 rfl s; replace s := Sat.front 2 rfl s; replace s := Sat.front 3 rfl s; replace s := Sat.front 4 rfl s; exact s)⟩
      · refine TB.of rfl ?_
        refine TO.mkS (f := cI) (za := 0) kelemB_22_3_1_8_true kinfo_3_bind_zero_some_I_0 rfl (by decide) rfl rfl hkq6_5_2 rfl fun vq6_5_3 => ?_
        refine TA.back (.inr (fun _ s => by replace s := Sat.front 2 rfl s; replace s := Sat.erase 1 s; replace s := Sat.erase 1 s; exact s)) ?_
        refine TA.all2 (i := 3) (j := 7) (by kernel_rfl) ?_ ?_
        · refine TB.of rfl ?_
          refine TO.mkS (f := cI) (za := 0) kelemB_22_3_1_8_true kinfo_3_bind_zero_some_I_0 rfl (by decide) rfl rfl hkq6_3_2 rfl fun vq6_3_3 => ?_
          refine TA.back (.inr (fun _ s => by replace s := Sat.front 3 rfl s; replace s := Sat.erase 1 s; replace s := Sat.erase 1 s; replace s := Sat.erase 1 s; exact s)) ?_
          refine TA.all2 (i := 6) (j := 7) (by kernel_rfl) ?_ ?_
          · refine TB.of rfl ?_
            refine TO.pure (fun _ s => Rd.one (OwnS.rd (Ent.at 2 rfl)) s) fun ocq6_6_1 => ?_
            refine TO.pure (fun _ s => Rd.one (OwnS.rd (Ent.at 0 rfl)) s) fun ocq6_6_2 => ?_
            refine TO.pure (fun _ s => Rd.one (OwnS.rd (Ent.at 1 rfl)) s) fun ocq6_6_3 => ?_
            refine TO.s rfl rfl rfl (StepS.buildS (us := [(1, I (-1)), (2, .agg #[vq6_1_3]), (3, .agg #[vq6_3_3]), (4, .agg #[vq6_5_3])]) (cs := [.slice none 0 0, I (-1), vq6_1_3, vq6_3_3, vq6_5_3]) rfl (by simp only [List.map_cons, List.map_nil, ocq6_6_1.2, ocq6_6_2.2, ocq6_6_3.2] <;> rfl) (by kernel_rfl)) ?_
            refine TA.back (.inr (fun _ s => by replace s := Sat.front 3 rfl s; replace s := Sat.erase 1 s; replace s := Sat.erase 1 s; replace s := Sat.erase 1 s; exact s)) ?_
            refine TA.all1 (i := 7) (by kernel_rfl) ?_
            refine TB.of rfl ?_
            refine TO.alloc kinfo_45_bind_zero_some_agg_slice_none_0_0_I_0_slice_none_0_0_slice_none_0_0_slice_none_0_0 rfl rfl fun bq6_7_1 => ?_
            refine TA.back (.inr (fun _ s => by replace s := Sat.front 4 rfl s; replace s := Sat.erase 1 s; replace s := Sat.erase 1 s; replace s := Sat.erase 1 s; replace s := Sat.erase 1 s; exact s)) ?_
            refine TA.all1 (i := 8) (by kernel_rfl) ?_
            refine TB.of rfl ?_
            refine TO.pure (fun _ s => Rd.one (OwnS.rd (Ent.at 3 rfl)) s) fun ocq6_8_1 => ?_
            refine TO.pure (fun _ s => Rd.one (OwnS.rd (Ent.at 1 rfl)) s) fun ocq6_8_2 => ?_
            refine TO.pure (fun _ s => Rd.one (OwnS.rd (Ent.at 2 rfl)) s) fun ocq6_8_3 => ?_
            refine TO.stB (us := [.slice none 0 0, I (-1), vq6_1_3, vq6_3_3, vq6_5_3]) 0 [.slice none 0 0, I (-1), vq6_1_3, vq6_3_3, vq6_5_3] rfl rfl rfl ksizeB_45_5_true rfl rfl rfl (by intro u hu; simp only [List.mem_cons, List.not_mem_nil, or_false] at hu; rcases hu with rfl | rfl | rfl | rfl | rfl <;> first | exact ocq6_8_1.1 | exact ocq6_8_2.1 | exact ocq6_8_3.1 | rfl) rfl ?_
            refine TA.back (.inl (by kernel_rfl)) ?_
            cases hj16
            refine TA.nil (by kernel_rfl) fun a w e s => ?_
            exact ⟨vq6_1_3, vq6_3_3, vq6_5_3, bq6_7_1, e.sub (lk_of_allIn ⟨rfl, rfl, rfl, rfl, trivial⟩), s.mono fun _ s => (by replace s := Sat.front 4 rfl s; replace s := Sat.front 1 rfl s; replace s := Sat.front 3 rfl s; replace s := Sat.front 3 rfl s; replace s := Sat.front 4 rfl s; exact s)⟩
          · refine TB.of rfl ?_
            refine TO.alloc kinfo_45_bind_zero_some_agg_slice_none_0_0_I_0_slice_none_0_0_slice_none_0_0_slice_none_0_0 rfl rfl fun bq6_7_1 => ?_
            refine TA.back (.inr (fun _ s => by replace s := Sat.front 4 rfl s; replace s := Sat.erase 1 s; replace s := Sat.erase 1 s; replace s := Sat.erase 1 s; replace s := Sat.erase 1 s; exact s)) ?_
            refine TA.all1 (i := 6) (by kernel_rfl) ?_
            refine TB.of rfl ?_
            refine TO.pure (fun _ s => Rd.one (OwnS.rd (Ent.at 3 rfl)) s) fun ocq6_6_1 => ?_
            refine TO.pure (fun _ s => Rd.one (OwnS.rd (Ent.at 1 rfl)) s) fun ocq6_6_2 => ?_
            refine TO.pure (fun _ s => Rd.one (OwnS.rd (Ent.at 2 rfl)) s) fun ocq6_6_3 => ?_
            refine TO.s rfl rfl rfl (StepS.buildS (us := [(1, I (-1)), (2, .agg #[vq6_1_3]), (3, .agg #[vq6_3_3]), (4, .agg #[vq6_5_3])]) (cs := [.slice none 0 0, I (-1), vq6_1_3, vq6_3_3, vq6_5_3]) rfl (by simp only [List.map_cons, List.map_nil, ocq6_6_1.2, ocq6_6_2.2, ocq6_6_3.2] <;> rfl) (by kernel_rfl)) ?_
            refine TA.back (.inr (fun _ s => by replace s := Sat.front 4 rfl s; replace s := Sat.erase 1 s; replace s := Sat.erase 1 s; replace s := Sat.erase 1 s; replace s := Sat.erase 1 s; exact s)) ?_
            refine TA.all1 (i := 8) (by kernel_rfl) ?_
            refine TB.of rfl ?_
            refine TO.pure (fun _ s => Rd.one (OwnS.rd (Ent.at 3 rfl)) s) fun ocq6_8_1 => ?_
            refine TO.pure (fun _ s => Rd.one (OwnS.rd (Ent.at 1 rfl)) s) fun ocq6_8_2 => ?_
            refine TO.pure (fun _ s => Rd.one (OwnS.rd (Ent.at 2 rfl)) s) fun ocq6_8_3 => ?_
            refine TO.stB (us := [.slice none 0 0, I (-1), vq6_1_3, vq6_3_3, vq6_5_3]) 0 [.slice none 0 0, I (-1), vq6_1_3, vq6_3_3, vq6_5_3] rfl rfl rfl ksizeB_45_5_true rfl rfl rfl (by intro u hu; simp only [List.mem_cons, List.not_mem_nil, or_false] at hu; rcases hu with rfl | rfl | rfl | rfl | rfl <;> first | exact ocq6_8_1.1 | exact ocq6_8_2.1 | exact ocq6_8_3.1 | rfl) rfl ?_
            refine TA.back (.inl (by kernel_rfl)) ?_
            cases hj16
            refine TA.nil (by kernel_rfl) fun a w e s => ?_
            exact ⟨vq6_1_3, vq6_3_3, vq6_5_3, bq6_7_1, e.sub (lk_of_allIn ⟨rfl, rfl, rfl, rfl, trivial⟩), s.mono fun _ s => (by replace s := Sat.front 4 rfl s; replace s := Sat.front 1 rfl s; replace s := Sat.front 3 rfl s; replace s := Sat.front 3 rfl s; replace s := Sat.front 4 rfl s; exact s)⟩
        · refine TB.of rfl ?_
          refine TO.alloc kinfo_45_bind_zero_some_agg_slice_none_0_0_I_0_slice_none_0_0_slice_none_0_0_slice_none_0_0 rfl rfl fun bq6_7_1 => ?_
          refine TA.back (.inr (fun _ s => by replace s := Sat.front 3 rfl s; replace s := Sat.erase 1 s; replace s := Sat.erase 1 s; replace s := Sat.erase 1 s; exact s)) ?_
          refine TA.all1 (i := 3) (by kernel_rfl) ?_
          refine TB.of rfl ?_
          refine TO.mkS (f := cI) (za := 0) kelemB_22_3_1_8_true kinfo_3_bind_zero_some_I_0 rfl (by decide) rfl rfl hkq6_3_2 rfl fun vq6_3_3 => ?_
          refine TA.back (.inr (fun _ s => by replace s := Sat.front 4 rfl s; replace s := Sat.erase 1 s; replace s := Sat.erase 1 s; replace s := Sat.erase 1 s; replace s := Sat.erase 1 s; exact s)) ?_
          refine TA.all1 (i := 6) (by kernel_rfl) ?_
          refine TB.of rfl ?_
          refine TO.pure (fun _ s => Rd.one (OwnS.rd (Ent.at 3 rfl)) s) fun ocq6_6_1 => ?_
          refine TO.pure (fun _ s => Rd.one (OwnS.rd (Ent.at 0 rfl)) s) fun ocq6_6_2 => ?_
          refine TO.pure (fun _ s => Rd.one (OwnS.rd (Ent.at 2 rfl)) s) fun ocq6_6_3 => ?_
          refine TO.s rfl rfl rfl (StepS.buildS (us := [(1, I (-1)), (2, .agg #[vq6_1_3]), (3, .agg #[vq6_3_3]), (4, .agg #[vq6_5_3])]) (cs := [.slice none 0 0, I (-1), vq6_1_3, vq6_3_3, vq6_5_3]) rfl (by simp only [List.map_cons, List.map_nil, ocq6_6_1.2, ocq6_6_2.2, ocq6_6_3.2] <;> rfl) (by kernel_rfl)) ?_
          refine TA.back (.inr (fun _ s => by replace s := Sat.front 4 rfl s; replace s := Sat.erase 1 s; replace s := Sat.erase 1 s; replace s := Sat.erase 1 s; replace s := Sat.erase 1 s; exact s)) ?_
          refine TA.all1 (i := 8) (by kernel_rfl) ?_
          refine TB.of rfl ?_
          refine TO.pure (fun _ s => Rd.one (OwnS.rd (Ent.at 3 rfl)) s) fun ocq6_8_1 => ?_
          refine TO.pure (fun _ s => Rd.one (OwnS.rd (Ent.at 0 rfl)) s) fun ocq6_8_2 => ?_
          refine TO.pure (fun _ s => Rd.one (OwnS.rd (Ent.at 2 rfl)) s) fun ocq6_8_3 => ?_
          refine TO.stB (us := [.slice none 0 0, I (-1), vq6_1_3, vq6_3_3, vq6_5_3]) 1 [.slice none 0 0, I (-1), vq6_1_3, vq6_3_3, vq6_5_3] rfl rfl rfl ksizeB_45_5_true rfl rfl rfl (by intro u hu; simp only [List.mem_cons, List.not_mem_nil, or_false] at hu; rcases hu with rfl | rfl | rfl | rfl | rfl <;> first | exact ocq6_8_1.1 | exact ocq6_8_2.1 | exact ocq6_8_3.1 | rfl) rfl ?_
          refine TA.back (.inl (by kernel_rfl)) ?_
          cases hj16
          refine TA.nil (by kernel_rfl) fun a w e s => ?_
          exact ⟨vq6_1_3, vq6_3_3, vq6_5_3, bq6_7_1, e.sub (lk_of_allIn ⟨rfl, rfl, rfl, rfl, trivial⟩), s.mono fun _ s => (by replace s := Sat.front 4 rfl s; replace s := Sat.front 2 rfl s; replace s := Sat.front 3 rfl s; replace s := Sat.front 3 rfl s; replace s := Sat.front 4 rfl s; exact s)⟩
      · refine TB.of rfl ?_
        refine TO.alloc kinfo_45_bind_zero_some_agg_slice_none_0_0_I_0_slice_none_0_0_slice_none_0_0_slice_none_0_0 rfl rfl fun bq6_7_1 => ?_
        refine TA.back (.inr (fun _ s => by replace s := Sat.front 2 rfl s; replace s := Sat.erase 1 s; replace s := Sat.erase 1 s; exact s)) ?_
        refine TA.all2 (i := 3) (j := 5) (by kernel_rfl) ?_ ?_
        · refine TB.of rfl ?_
          refine TO.mkS (f := cI) (za := 0) kelemB_22_3_1_8_true kinfo_3_bind_zero_some_I_0 rfl (by decide) rfl rfl hkq6_3_2 rfl fun vq6_3_3 => ?_
          refine TA.back (.inr (fun _ s => by replace s := Sat.front 3 rfl s; replace s := Sat.erase 1 s; replace s := Sat.erase 1 s; replace s := Sat.erase 1 s; exact s)) ?_
          refine TA.all1 (i := 5) (by kernel_rfl) ?_
          refine TB.of rfl ?_
          refine TO.mkS (f := cI) (za := 0) kelemB_22_3_1_8_true kinfo_3_bind_zero_some_I_0 rfl (by decide) rfl rfl hkq6_5_2 rfl fun vq6_5_3 => ?_
          refine TA.back (.inr (fun _ s => by replace s := Sat.front 4 rfl s; replace s := Sat.erase 1 s; replace s := Sat.erase 1 s; replace s := Sat.erase 1 s; replace s := Sat.erase 1 s; exact s)) ?_
          refine TA.all1 (i := 6) (by kernel_rfl) ?_
          refine TB.of rfl ?_
          refine TO.pure (fun _ s => Rd.one (OwnS.rd (Ent.at 3 rfl)) s) fun ocq6_6_1 => ?_
          refine TO.pure (fun _ s => Rd.one (OwnS.rd (Ent.at 1 rfl)) s) fun ocq6_6_2 => ?_
          refine TO.pure (fun _ s => Rd.one (OwnS.rd (Ent.at 0 rfl)) s) fun ocq6_6_3 => ?_
          refine TO.s rfl rfl rfl (StepS.buildS (us := [(1, I (-1)), (2, .agg #[vq6_1_3]), (3, .agg #[vq6_3_3]), (4, .agg #[vq6_5_3])]) (cs := [.slice none 0 0, I (-1), vq6_1_3, vq6_3_3, vq6_5_3]) rfl (by simp only [List.map_cons, List.map_nil, ocq6_6_1.2, ocq6_6_2.2, ocq6_6_3.2] <;> rfl) (by kernel_rfl)) ?_
          refine TA.back (.inr (fun _ s => by replace s := Sat.front 4 rfl s; replace s := Sat.erase 1 s; replace s := Sat.erase 1 s; replace s := Sat.erase 1 s; replace s := Sat.erase 1 s; exact s)) ?_
          refine TA.all1 (i := 8) (by kernel_rfl) ?_
          refine TB.of rfl ?_
          refine TO.pure (fun _ s => Rd.one (OwnS.rd (Ent.at 3 rfl)) s) fun ocq6_8_1 => ?_
          refine TO.pure (fun _ s => Rd.one (OwnS.rd (Ent.at 1 rfl)) s) fun ocq6_8_2 => ?_
          refine TO.pure (fun _ s => Rd.one (OwnS.rd (Ent.at 0 rfl)) s) fun ocq6_8_3 => ?_
          refine TO.stB (us := [.slice none 0 0, I (-1), vq6_1_3, vq6_3_3, vq6_5_3]) 2 [.slice none 0 0, I (-1), vq6_1_3, vq6_3_3, vq6_5_3] rfl rfl rfl ksizeB_45_5_true rfl rfl rfl (by intro u hu; simp only [List.mem_cons, List.not_mem_nil, or_false] at hu; rcases hu with rfl | rfl | rfl | rfl | rfl <;> first | exact ocq6_8_1.1 | exact ocq6_8_2.1 | exact ocq6_8_3.1 | rfl) rfl ?_
          refine TA.back (.inl (by kernel_rfl)) ?_
          cases hj16
          refine TA.nil (by kernel_rfl) fun a w e s => ?_
          exact ⟨vq6_1_3, vq6_3_3, vq6_5_3, bq6_7_1, e.sub (lk_of_allIn ⟨rfl, rfl, rfl, rfl, trivial⟩), s.mono fun _ s => (by replace s := Sat.front 4 rfl s; replace s := Sat.front 3 rfl s; replace s := Sat.front 2 rfl s; replace s := Sat.front 3 rfl s; replace s := Sat.front 4 rfl s; exact s)⟩
        · refine TB.of rfl ?_
          refine TO.mkS (f := cI) (za := 0) kelemB_22_3_1_8_true kinfo_3_bind_zero_some_I_0 rfl (by decide) rfl rfl hkq6_5_2 rfl fun vq6_5_3 => ?_
          refine TA.back (.inr (fun _ s => by replace s := Sat.front 3 rfl s; replace s := Sat.erase 1 s; replace s := Sat.erase 1 s; replace s := Sat.erase 1 s; exact s)) ?_
          refine TA.all1 (i := 3) (by kernel_rfl) ?_
          refine TB.of rfl ?_
          refine TO.mkS (f := cI) (za := 0) kelemB_22_3_1_8_true kinfo_3_bind_zero_some_I_0 rfl (by decide) rfl rfl hkq6_3_2 rfl fun vq6_3_3 => ?_
          refine TA.back (.inr (fun _ s => by replace s := Sat.front 4 rfl s; replace s := Sat.erase 1 s; replace s := Sat.erase 1 s; replace s := Sat.erase 1 s; replace s := Sat.erase 1 s; exact s)) ?_
          refine TA.all1 (i := 6) (by kernel_rfl) ?_
          refine TB.of rfl ?_
          refine TO.pure (fun _ s => Rd.one (OwnS.rd (Ent.at 3 rfl)) s) fun ocq6_6_1 => ?_
          refine TO.pure (fun _ s => Rd.one (OwnS.rd (Ent.at 0 rfl)) s) fun ocq6_6_2 => ?_
          refine TO.pure (fun _ s => Rd.one (OwnS.rd (Ent.at 1 rfl)) s) fun ocq6_6_3 => ?_
          refine TO.s rfl rfl rfl (StepS.buildS (us := [(1, I (-1)), (2, .agg #[vq6_1_3]), (3, .agg #[vq6_3_3]), (4, .agg #[vq6_5_3])]) (cs := [.slice none 0 0, I (-1), vq6_1_3, vq6_3_3, vq6_5_3]) rfl (by simp only [List.map_cons, List.map_nil, ocq6_6_1.2, ocq6_6_2.2, ocq6_6_3.2] <;> rfl) (by kernel_rfl)) ?_
          refine TA.back (.inr (fun _ s => by replace s := Sat.front 4 rfl s; replace s := Sat.erase 1 s; replace s := Sat.erase 1 s; replace s := Sat.erase 1 s; replace s := Sat.erase 1 s; exact s)) ?_
          refine TA.all1 (i := 8) (by kernel_rfl) ?_
          refine TB.of rfl ?_
          refine TO.pure (fun _ s => Rd.one (OwnS.rd (Ent.at 3 rfl)) s) fun ocq6_8_1 => ?_
          refine TO.pure (fun _ s => Rd.one (OwnS.rd (Ent.at 0 rfl)) s) fun ocq6_8_2 => ?_
          refine TO.pure (fun _ s => Rd.one (OwnS.rd (Ent.at 1 rfl)) s) fun ocq6_8_3 => ?_
          refine TO.stB (us := [.slice none 0 0, I (-1), vq6_1_3, vq6_3_3, vq6_5_3]) 2 [.slice none 0 0, I (-1), vq6_1_3, vq6_3_3, vq6_5_3] rfl rfl rfl ksizeB_45_5_true rfl rfl rfl (by intro u hu; simp only [List.mem_cons, List.not_mem_nil, or_false] at hu; rcases hu with rfl | rfl | rfl | rfl | rfl <;> first | exact ocq6_8_1.1 | exact ocq6_8_2.1 | exact ocq6_8_3.1 | rfl) rfl ?_
          refine TA.back (.inl (by kernel_rfl)) ?_
          cases hj16
          refine TA.nil (by kernel_rfl) fun a w e s => ?_
          exact ⟨vq6_1_3, vq6_3_3, vq6_5_3, bq6_7_1, e.sub (lk_of_allIn ⟨rfl, rfl, rfl, rfl, trivial⟩), s.mono fun _ s => (by replace s := Sat.front 4 rfl s; replace s := Sat.front 3 rfl s; replace s := Sat.front 3 rfl s; replace s := Sat.front 3 rfl s; replace s := Sat.front 4 rfl s; exact s)⟩
    · refine TB.of rfl ?_
      refine TO.mkS (f := cI) (za := 0) kelemB_22_3_1_8_true kinfo_3_bind_zero_some_I_0 rfl (by decide) rfl rfl hkq6_3_2 rfl fun vq6_3_3 => ?_
      refine TA.back (.inr (fun _ s => by replace s := Sat.front 1 rfl s; replace s := Sat.erase 1 s; exact s)) ?_
      refine TA.all3 (i := 1) (j := 5) (k := 7) (by kernel_rfl) ?_ ?_ ?_
      · refine TB.of rfl ?_
        refine TO.mkS (f := cI) (za := 0) kelemB_22_3_1_8_true kinfo_3_bind_zero_some_I_0 rfl (by decide) rfl rfl hkq6_1_2 rfl fun vq6_1_3 => ?_
        refine TA.back (.inr (fun _ s => by replace s := Sat.front 2 rfl s; replace s := Sat.erase 1 s; replace s := Sat.erase 1 s; exact s)) ?_
        refine TA.all2 (i := 5) (j := 7) (by kernel_rfl) ?_ ?_
        · refine TB.of rfl ?_
          refine TO.mkS (f := cI) (za := 0) kelemB_22_3_1_8_true kinfo_3_bind_zero_some_I_0 rfl (by decide) rfl rfl hkq6_5_2 rfl fun vq6_5_3 => ?_
          refine TA.back (.inr (fun _ s => by replace s := Sat.front 3 rfl s; replace s := Sat.erase 1 s; replace s := Sat.erase 1 s; replace s := Sat.erase 1 s; exact s)) ?_
          refine TA.all2 (i := 6) (j := 7) (by kernel_rfl) ?_ ?_
          · refine TB.of rfl ?_
            refine TO.pure (fun _ s => Rd.one (OwnS.rd (Ent.at 1 rfl)) s) fun ocq6_6_1 => ?_
            refine TO.pure (fun _ s => Rd.one (OwnS.rd (Ent.at 2 rfl)) s) fun ocq6_6_2 => ?_
            refine TO.pure (fun _ s => Rd.one (OwnS.rd (Ent.at 0 rfl)) s) fun ocq6_6_3 => ?_
            refine TO.s rfl rfl rfl (StepS.buildS (us := [(1, I (-1)), (2, .agg #[vq6_1_3]), (3, .agg #[vq6_3_3]), (4, .agg #[vq6_5_3])]) (cs := [.slice none 0 0, I (-1), vq6_1_3, vq6_3_3, vq6_5_3]) rfl (by simp only [List.map_cons, List.map_nil, ocq6_6_1.2, ocq6_6_2.2, ocq6_6_3.2] <;> rfl) (by kernel_rfl)) ?_
            refine TA.back (.inr (fun _ s => by replace s := Sat.front 3 rfl s; replace s := Sat.erase 1 s; replace s := Sat.erase 1 s; replace s := Sat.erase 1 s; exact s)) ?_
            refine TA.all1 (i := 7) (by kernel_rfl) ?_
            refine TB.of rfl ?_
            refine TO.alloc kinfo_45_bind_zero_some_agg_slice_none_0_0_I_0_slice_none_0_0_slice_none_0_0_slice_none_0_0 rfl rfl fun bq6_7_1 => ?_
            refine TA.back (.inr (fun _ s => by replace s := Sat.front 4 rfl s; replace s := Sat.erase 1 s; replace s := Sat.erase 1 s; replace s := Sat.erase 1 s; replace s := Sat.erase 1 s; exact s)) ?_
            refine TA.all1 (i := 8) (by kernel_rfl) ?_
            refine TB.of rfl ?_
            refine TO.pure (fun _ s => Rd.one (OwnS.rd (Ent.at 2 rfl)) s) fun ocq6_8_1 => ?_
            refine TO.pure (fun _ s => Rd.one (OwnS.rd (Ent.at 3 rfl)) s) fun ocq6_8_2 => ?_
            refine TO.pure (fun _ s => Rd.one (OwnS.rd (Ent.at 1 rfl)) s) fun ocq6_8_3 => ?_
            refine TO.stB (us := [.slice none 0 0, I (-1), vq6_1_3, vq6_3_3, vq6_5_3]) 0 [.slice none 0 0, I (-1), vq6_1_3, vq6_3_3, vq6_5_3] rfl rfl rfl ksizeB_45_5_true rfl rfl rfl (by intro u hu; simp only [List.mem_cons, List.not_mem_nil, or_false] at hu; rcases hu with rfl | rfl | rfl | rfl | rfl <;> first | exact ocq6_8_1.1 | exact ocq6_8_2.1 | exact ocq6_8_3.1 | rfl) rfl ?_
            refine TA.back (.inl (by kernel_rfl)) ?_
            cases hj16
            refine TA.nil (by kernel_rfl) fun a w e s => ?_
            exact ⟨vq6_1_3, vq6_3_3, vq6_5_3, bq6_7_1, e.sub (lk_of_allIn ⟨rfl, rfl, rfl, rfl, trivial⟩), s.mono fun _ s => (by replace s := Sat.front 4 rfl s; replace s := Sat.front 1 rfl s; replace s := Sat.front 2 rfl s; replace s := Sat.front 4 rfl s; replace s := Sat.front 4 rfl s; exact s)⟩
          · refine TB.of rfl ?_
            refine TO.alloc kinfo_45_bind_zero_some_agg_slice_none_0_0_I_0_slice_none_0_0_slice_none_0_0_slice_none_0_0 rfl rfl fun bq6_7_1 => ?_
            refine TA.back (.inr (fun _ s => by replace s := Sat.front 4 rfl s; replace s := Sat.erase 1 s; replace s := Sat.erase 1 s; replace s := Sat.erase 1 s; replace s := Sat.erase 1 s; exact s)) ?_
            refine TA.all1 (i := 6) (by kernel_rfl) ?_
            refine TB.of rfl ?_
            refine TO.pure (fun _ s => Rd.one (OwnS.rd (Ent.at 2 rfl)) s) fun ocq6_6_1 => ?_
            refine TO.pure (fun _ s => Rd.one (OwnS.rd (Ent.at 3 rfl)) s) fun ocq6_6_2 => ?_
            refine TO.pure (fun _ s => Rd.one (OwnS.rd (Ent.at 1 rfl)) s) fun ocq6_6_3 => ?_
            refine TO.s rfl rfl rfl (StepS.buildS (us := [(1, I (-1)), (2, .agg #[vq6_1_3]), (3, .agg #[vq6_3_3]), (4, .agg #[vq6_5_3])]) (cs := [.slice none 0 0, I (-1), vq6_1_3, vq6_3_3, vq6_5_3]) rfl (by simp only [List.map_cons, List.map_nil, ocq6_6_1.2, ocq6_6_2.2, ocq6_6_3.2] <;> rfl) (by kernel_rfl)) ?_
            refine TA.back (.inr (fun _ s => by replace s := Sat.front 4 rfl s; replace s := Sat.erase 1 s; replace s := Sat.erase 1 s; replace s := Sat.erase 1 s; replace s := Sat.erase 1 s; exact s)) ?_
            refine TA.all1 (i := 8) (by kernel_rfl) ?_
            refine TB.of rfl ?_
            refine TO.pure (fun _ s => Rd.one (OwnS.rd (Ent.at 2 rfl)) s) fun ocq6_8_1 => ?_
            refine TO.pure (fun _ s => Rd.one (OwnS.rd (Ent.at 3 rfl)) s) fun ocq6_8_2 => ?_
            refine TO.pure (fun _ s => Rd.one (OwnS.rd (Ent.at 1 rfl)) s) fun ocq6_8_3 => ?_
            refine TO.stB (us := [.slice none 0 0, I (-1), vq6_1_3, vq6_3_3, vq6_5_3]) 0 [.slice none 0 0, I (-1), vq6_1_3, vq6_3_3, vq6_5_3] rfl rfl rfl ksizeB_45_5_true rfl rfl rfl (by intro u hu; simp only [List.mem_cons, List.not_mem_nil, or_false] at hu; rcases hu with rfl | rfl | rfl | rfl | rfl <;> first | exact ocq6_8_1.1 | exact ocq6_8_2.1 | exact ocq6_8_3.1 | rfl) rfl ?_
            refine TA.back (.inl (by kernel_rfl)) ?_
            cases hj16
            refine TA.nil (by kernel_rfl) fun a w e s => ?_
            exact ⟨vq6_1_3, vq6_3_3, vq6_5_3, bq6_7_1, e.sub (lk_of_allIn ⟨rfl, rfl, rfl, rfl, trivial⟩), s.mono fun _ s => (by replace s := Sat.front 4 rfl s; replace s := Sat.front 1 rfl s; replace s := Sat.front 2 rfl s; replace s := Sat.front 4 rfl s; replace s := Sat.front 4 rfl s; exact s)⟩
        · refine TB.of rfl ?_
          refine TO.alloc kinfo_45_bind_zero_some_agg_slice_none_0_0_I_0_slice_none_0_0_slice_none_0_0_slice_none_0_0 rfl rfl fun bq6_7_1 => ?_
          refine TA.back (.inr (fun _ s => by replace s := Sat.front 3 rfl s; replace s := Sat.erase 1 s; replace s := Sat.erase 1 s; replace s := Sat.erase 1 s; exact s)) ?_
          refine TA.all1 (i := 5) (by kernel_rfl) ?_
          refine TB.of rfl ?_
          refine TO.mkS (f := cI) (za := 0) kelemB_22_3_1_8_true kinfo_3_bind_zero_some_I_0 rfl (by decide) rfl rfl hkq6_5_2 rfl fun vq6_5_3 => ?_
          refine TA.back (.inr (fun _ s => by replace s := Sat.front 4 rfl s; replace s := Sat.erase 1 s; replace s := Sat.erase 1 s; replace s := Sat.erase 1 s; replace s := Sat.erase 1 s; exact s)) ?_
          refine TA.all1 (i := 6) (by kernel_rfl) ?_
          refine TB.of rfl ?_
          refine TO.pure (fun _ s => Rd.one (OwnS.rd (Ent.at 2 rfl)) s) fun ocq6_6_1 => ?_
          refine TO.pure (fun _ s => Rd.one (OwnS.rd (Ent.at 3 rfl)) s) fun ocq6_6_2 => ?_
          refine TO.pure (fun _ s => Rd.one (OwnS.rd (Ent.at 0 rfl)) s) fun ocq6_6_3 => ?_
          refine TO.s rfl rfl rfl (StepS.buildS (us := [(1, I (-1)), (2, .agg #[vq6_1_3]), (3, .agg #[vq6_3_3]), (4, .agg #[vq6_5_3])]) (cs := [.slice none 0 0, I (-1), vq6_1_3, vq6_3_3, vq6_5_3]) rfl (by simp only [List.map_cons, List.map_nil, ocq6_6_1.2, ocq6_6_2.2, ocq6_6_3.2] <;> rfl) (by kernel_rfl)) ?_
          refine TA.back (.inr (fun _ s => by replace s := Sat.front 4 rfl s; replace s := Sat.erase 1 s; replace s := Sat.erase 1 s; replace s := Sat.erase 1 s; replace s := Sat.erase 1 s; exact s)) ?_
          refine TA.all1 (i := 8) (by kernel_rfl) ?_
          refine TB.of rfl ?_
          refine TO.pure (fun _ s => Rd.one (OwnS.rd (Ent.at 2 rfl)) s) fun ocq6_8_1 => ?_
          refine TO.pure (fun _ s => Rd.one (OwnS.rd (Ent.at 3 rfl)) s) fun ocq6_8_2 => ?_
          refine TO.pure (fun _ s => Rd.one (OwnS.rd (Ent.at 0 rfl)) s) fun ocq6_8_3 => ?_
          refine TO.stB (us := [.slice none 0 0, I (-1), vq6_1_3, vq6_3_3, vq6_5_3]) 1 [.slice none 0 0, I (-1), vq6_1_3, vq6_3_3, vq6_5_3] rfl rfl rfl ksizeB_45_5_true rfl rfl rfl (by intro u hu; simp only [List.mem_cons, List.not_mem_nil, or_false] at hu; rcases hu with rfl | rfl | rfl | rfl | rfl <;> first | exact ocq6_8_1.1 | exact ocq6_8_2.1 | exact ocq6_8_3.1 | rfl) rfl ?_
          refine TA.back (.inl (by kernel_rfl)) ?_
          cases hj16
          refine TA.nil (by kernel_rfl) fun a w e s => ?_
          exact ⟨vq6_1_3, vq6_3_3, vq6_5_3, bq6_7_1, e.sub (lk_of_allIn ⟨rfl, rfl, rfl, rfl, trivial⟩), s.mono fun _ s => (by replace s := Sat.front 4 rfl s; replace s := Sat.front 2 rfl s; replace s := Sat.front 2 rfl s; replace s := Sat.front 4 rfl s; replace s := Sat.front 4 rfl s; exact s)⟩
      · refine TB.of rfl ?_
        refine TO.mkS (f := cI) (za := 0) kelemB_22_3_1_8_true kinfo_3_bind_zero_some_I_0 rfl (by decide) rfl rfl hkq6_5_2 rfl fun vq6_5_3 => ?_
        refine TA.back (.inr (fun _ s => by replace s := Sat.front 2 rfl s; replace s := Sat.erase 1 s; replace s := Sat.erase 1 s; exact s)) ?_
        refine TA.all2 (i := 1) (j := 7) (by kernel_rfl) ?_ ?_
        · refine TB.of rfl ?_
          refine TO.mkS (f := cI) (za := 0) kelemB_22_3_1_8_true kinfo_3_bind_zero_some_I_0 rfl (by decide) rfl rfl hkq6_1_2 rfl fun vq6_1_3 => ?_
          refine TA.back (.inr (fun _ s => by replace s := Sat.front 3 rfl s; replace s := Sat.erase 1 s; replace s := Sat.erase 1 s; replace s := Sat.erase 1 s; exact s)) ?_
          refine TA.all2 (i := 6) (j := 7) (by kernel_rfl) ?_ ?_
          · refine TB.of rfl ?_
            refine TO.pure (fun _ s => Rd.one (OwnS.rd (Ent.at 0 rfl)) s) fun ocq6_6_1 => ?_
            refine TO.pure (fun _ s => Rd.one (OwnS.rd (Ent.at 2 rfl)) s) fun ocq6_6_2 => ?_
            refine TO.pure (fun _ s => Rd.one (OwnS.rd (Ent.at 1 rfl)) s) fun ocq6_6_3 => ?_
            refine TO.s rfl rfl rfl (StepS.buildS (us := [(1, I (-1)), (2, .agg #[vq6_1_3]), (3, .agg #[vq6_3_3]), (4, .agg #[vq6_5_3])]) (cs := [.slice none 0 0, I (-1), vq6_1_3, vq6_3_3, vq6_5_3]) rfl (by simp only [List.map_cons, List.map_nil, ocq6_6_1.2, ocq6_6_2.2, ocq6_6_3.2] <;> rfl) (by kernel_rfl)) ?_
            refine TA.back (.inr (fun _ s => by replace s := Sat.front 3 rfl s; replace s := Sat.erase 1 s; replace s := Sat.erase 1 s; replace s := Sat.erase 1 s; exact s)) ?_
            refine TA.all1 (i := 7) (by kernel_rfl) ?_
            refine TB.of rfl ?_
            refine TO.alloc kinfo_45_bind_zero_some_agg_slice_none_0_0_I_0_slice_none_0_0_slice_none_0_0_slice_none_0_0 rfl rfl fun bq6_7_1 => ?_
            refine TA.back (.inr (fun _ s => by replace s := Sat.front 4 rfl s; replace s := Sat.erase 1 s; replace s := Sat.erase 1 s; replace s := Sat.erase 1 s; replace s := Sat.erase 1 s; exact s)) ?_
            refine TA.all1 (i := 8) (by kernel_rfl) ?_
            refine TB.of rfl ?_
            refine TO.pure (fun _ s => Rd.one (OwnS.rd (Ent.at 1 rfl)) s) fun ocq6_8_1 => ?_
            refine TO.pure (fun _ s => Rd.one (OwnS.rd (Ent.at 3 rfl)) s) fun ocq6_8_2 => ?_
            refine TO.pure (fun _ s => Rd.one (OwnS.rd (Ent.at 2 rfl)) s) fun ocq6_8_3 => ?_
            refine TO.stB (us := [.slice none 0 0, I (-1), vq6_1_3, vq6_3_3, vq6_5_3]) 0 [.slice none 0 0, I (-1), vq6_1_3, vq6_3_3, vq6_5_3] rfl rfl rfl ksizeB_45_5_true rfl rfl rfl (by intro u hu; simp only [List.mem_cons, List.not_mem_nil, or_false] at hu; rcases hu with rfl | rfl | rfl | rfl | rfl <;> first | exact ocq6_8_1.1 | exact ocq6_8_2.1 | exact ocq6_8_3.1 | rfl) rfl ?_
            refine TA.back (.inl (by kernel_rfl)) ?_
            cases hj16
            refine TA.nil (by kernel_rfl) fun a w e s => ?_
            exact ⟨vq6_1_3, vq6_3_3, vq6_5_3, bq6_7_1, e.sub (lk_of_allIn ⟨rfl, rfl, rfl, rfl, trivial⟩), s.mono fun _ s => (by replace s := Sat.front 4 rfl s; replace s := Sat.front 1 rfl s; replace s := Sat.front 3 rfl s; replace s := Sat.front 4 rfl s; replace s := Sat.front 4 rfl s; exact s)⟩
          · refine TB.of rfl ?_
            refine TO.alloc kinfo_45_bind_zero_some_agg_slice_none_0_0_I_0_slice_none_0_0_slice_none_0_0_slice_none_0_0 rfl rfl fun bq6_7_1 => ?_
            refine TA.back (.inr (fun _ s => by replace s := Sat.front 4 rfl s; replace s := Sat.erase 1 s; replace s := Sat.erase 1 s; replace s := Sat.erase 1 s; replace s := Sat.erase 1 s; exact s)) ?_
            refine TA.all1 (i := 6) (by kernel_rfl) ?_
            refine TB.of rfl ?_
            refine TO.pure (fun _ s => Rd.one (OwnS.rd (Ent.at 1 rfl)) s) fun ocq6_6_1 => ?_
            refine TO.pure (fun _ s => Rd.one (OwnS.rd (Ent.at 3 rfl)) s) fun ocq6_6_2 => ?_
            refine TO.pure (fun _ s => Rd.one (OwnS.rd (Ent.at 2 rfl)) s) fun ocq6_6_3 => ?_
            refine TO.s rfl rfl rfl (StepS.buildS (us := [(1, I (-1)), (2, .agg #[vq6_1_3]), (3, .agg #[vq6_3_3]), (4, .agg #[vq6_5_3])]) (cs := [.slice none 0 0, I (-1), vq6_1_3, vq6_3_3, vq6_5_3]) rfl (by simp only [List.map_cons, List.map_nil, ocq6_6_1.2, ocq6_6_2.2, ocq6_6_3.2] <;> rfl) (by kernel_rfl)) ?_
            refine TA.back (.inr (fun _ s => by replace s := Sat.front 4 rfl s; replace s := Sat.erase 1 s; replace s := Sat.erase 1 s; replace s := Sat.erase 1 s; replace s := Sat.erase 1 s; exact s)) ?_
            refine TA.all1 (i := 8) (by kernel_rfl) ?_
            refine TB.of rfl ?_
            refine TO.pure (fun _ s => Rd.one (OwnS.rd (Ent.at 1 rfl)) s) fun ocq6_8_1 => ?_
            refine TO.pure (fun _ s => Rd.one (OwnS.rd (Ent.at 3 rfl)) s) fun ocq6_8_2 => ?_
            refine TO.pure (fun _ s => Rd.one (OwnS.rd (Ent.at 2 rfl)) s) fun ocq6_8_3 => ?_
            refine TO.stB (us := [.slice none 0 0, I (-1), vq6_1_3, vq6_3_3, vq6_5_3]) 0 [.slice none 0 0, I (-1), vq6_1_3, vq6_3_3, vq6_5_3] rfl rfl rfl ksizeB_45_5_true rfl rfl rfl (by intro u hu; simp only [List.mem_cons, List.not_mem_nil, or_false] at hu; rcases hu with rfl | rfl | rfl | rfl | rfl <;> first | exact ocq6_8_1.1 | exact ocq6_8_2.1 | exact ocq6_8_3.1 | rfl) rfl ?_
            refine TA.back (.inl (by kernel_rfl)) ?_
            cases hj16
            refine TA.nil (by kernel_rfl) fun a w e s => ?_
            exact ⟨vq6_1_3, vq6_3_3, vq6_5_3, bq6_7_1, e.sub (lk_of_allIn ⟨rfl, rfl, rfl, rfl, trivial⟩), s.mono fun _ s => (by replace s := Sat.front 4 rfl s; replace s := Sat.front 1 rfl s; replace s := Sat.front 3 rfl s; replace s := Sat.front 4 rfl s; replace s := Sat.front 4 rfl s; exact s)⟩
        · refine TB.of rfl ?_
          refine TO.alloc kinfo_45_bind_zero_some_agg_slice_none_0_0_I_0_slice_none_0_0_slice_none_0_0_slice_none_0_0 rfl rfl fun bq6_7_1 => ?_
          refine TA.back (.inr (fun _ s => by replace s := Sat.front 3 rfl s; replace s := Sat.erase 1 s; replace s := Sat.erase 1 s; replace s := Sat.erase 1 s; exact s)) ?_
          refine TA.all1 (i := 1) (by kernel_rfl) ?_
          refine TB.of rfl ?_
          refine TO.mkS (f := cI) (za := 0) kelemB_22_3_1_8_true kinfo_3_bind_zero_some_I_0 rfl (by decide) rfl rfl hkq6_1_2 rfl fun vq6_1_3 => ?_
          refine TA.back (.inr (fun _ s => by replace s := Sat.front 4 rfl s; replace s := Sat.erase 1 s; replace s := Sat.erase 1 s; replace s := Sat.erase 1 s; replace s := Sat.erase 1 s; exact s)) ?_
          refine TA.all1 (i := 6) (by kernel_rfl) ?_
          refine TB.of rfl ?_
          refine TO.pure (fun _ s => Rd.one (OwnS.rd (Ent.at 0 rfl)) s) fun ocq6_6_1 => ?_
          refine TO.pure (fun _ s => Rd.one (OwnS.rd (Ent.at 3 rfl)) s) fun ocq6_6_2 => ?_
          refine TO.pure (fun _ s => Rd.one (OwnS.rd (Ent.at 2 rfl)) s) fun ocq6_6_3 => ?_
          refine TO.s rfl rfl rfl (StepS.buildS (us := [(1, I (-1)), (2, .agg #[vq6_1_3]), (3, .agg #[vq6_3_3]), (4, .agg #[vq6_5_3])]) (cs := [.slice none 0 0, I (-1), vq6_1_3, vq6_3_3, vq6_5_3]) rfl (by simp only [List.map_cons, List.map_nil, ocq6_6_1.2, ocq6_6_2.2, ocq6_6_3.2] <;> rfl) (by kernel_rfl)) ?_
          refine TA.back (.inr (fun _ s => by replace s := Sat.front 4 rfl s; replace s := Sat.erase 1 s; replace s := Sat.erase 1 s; replace s := Sat.erase 1 s; replace s := Sat.erase 1 s; exact s)) ?_
          refine TA.all1 (i := 8) (by kernel_rfl) ?_
          refine TB.of rfl ?_
          refine TO.pure (fun _ s => Rd.one (OwnS.rd (Ent.at 0 rfl)) s) fun ocq6_8_1 => ?_
          refine TO.pure (fun _ s => Rd.one (OwnS.rd (Ent.at 3 rfl)) s) fun ocq6_8_2 => ?_
          refine TO.pure (fun _ s => Rd.one (OwnS.rd (Ent.at 2 rfl)) s) fun ocq6_8_3 => ?_
          refine TO.stB (us := [.slice none 0 0, I (-1), vq6_1_3, vq6_3_3, vq6_5_3]) 1 [.slice none 0 0, I (-1), vq6_1_3, vq6_3_3, vq6_5_3] rfl rfl rfl ksizeB_45_5_true rfl rfl rfl (by intro u hu; simp only [List.mem_cons, List.not_mem_nil, or_false] at hu; rcases hu with rfl | rfl | rfl | rfl | rfl <;> first | exact ocq6_8_1.1 | exact ocq6_8_2.1 | exact ocq6_8_3.1 | rfl) rfl ?_
          refine TA.back (.inl (by kernel_rfl)) ?_
          cases hj16
          refine TA.nil (by kernel_rfl) fun a w e s => ?_
          exact ⟨vq6_1_3, vq6_3_3, vq6_5_3, bq6_7_1, e.sub (lk_of_allIn ⟨rfl, rfl, rfl, rfl, trivial⟩), s.mono fun _ s => (by replace s := Sat.front 4 rfl s; replace s := Sat.front 2 rfl s; replace s := Sat.front 3 rfl s; replace s := Sat.front 4 rfl s; replace s := Sat.front 4 rfl s; exact s)⟩
      · refine TB.of rfl ?_
        refine TO.alloc kinfo_45_bind_zero_some_agg_slice_none_0_0_I_0_slice_none_0_0_slice_none_0_0_slice_none_0_0 rfl rfl fun bq6_7_1 => ?_
        refine TA.back (.inr (fun _ s => by replace s := Sat.front 2 rfl s; replace s := Sat.erase 1 s; replace s := Sat.erase 1 s; exact s)) ?_
        refine TA.all2 (i := 1) (j := 5) (by kernel_rfl) ?_ ?_
        · refine TB.of rfl ?_
          refine TO.mkS (f := cI) (za := 0) kelemB_22_3_1_8_true kinfo_3_bind_zero_some_I_0 rfl (by decide) rfl rfl hkq6_1_2 rfl fun vq6_1_3 => ?_
          refine TA.back (.inr (fun _ s => by replace s := Sat.front 3 rfl s; replace s := Sat.erase 1 s; replace s := Sat.erase 1 s; replace s := Sat.erase 1 s; exact s)) ?_
          refine TA.all1 (i := 5) (by kernel_rfl) ?_
          refine TB.of rfl ?_
          refine TO.mkS (f := cI) (za := 0) kelemB_22_3_1_8_true kinfo_3_bind_zero_some_I_0 rfl (by decide) rfl rfl hkq6_5_2 rfl fun vq6_5_3 => ?_
          refine TA.back (.inr (fun _ s => by replace s := Sat.front 4 rfl s; replace s := Sat.erase 1 s; replace s := Sat.erase 1 s; replace s := Sat.erase 1 s; replace s := Sat.erase 1 s; exact s)) ?_
          refine TA.all1 (i := 6) (by kernel_rfl) ?_
          refine TB.of rfl ?_
          refine TO.pure (fun _ s => Rd.one (OwnS.rd (Ent.at 1 rfl)) s) fun ocq6_6_1 => ?_
          refine TO.pure (fun _ s => Rd.one (OwnS.rd (Ent.at 3 rfl)) s) fun ocq6_6_2 => ?_
          refine TO.pure (fun _ s => Rd.one (OwnS.rd (Ent.at 0 rfl)) s) fun ocq6_6_3 => ?_
          refine TO.s rfl rfl rfl (StepS.buildS (us := [(1, I (-1)), (2, .agg #[vq6_1_3]), (3, .agg #[vq6_3_3]), (4, .agg #[vq6_5_3])]) (cs := [.slice none 0 0, I (-1), vq6_1_3, vq6_3_3, vq6_5_3]) rfl (by simp only [List.map_cons, List.map_nil, ocq6_6_1.2, ocq6_6_2.2, ocq6_6_3.2] <;> rfl) (by kernel_rfl)) ?_
          refine TA.back (.inr (fun _ s => by replace s := Sat.front 4 rfl s; replace s := Sat.erase 1 s; replace s := Sat.erase 1 s; replace s := Sat.erase 1 s; replace s := Sat.erase 1 s; exact s)) ?_
          refine TA.all1 (i := 8) (by kernel_rfl) ?_
          refine TB.of rfl ?_
          refine TO.pure (fun _ s => Rd.one (OwnS.rd (Ent.at 1 rfl)) s) fun ocq6_8_1 => ?_
          refine TO.pure (fun _ s => Rd.one (OwnS.rd (Ent.at 3 rfl)) s) fun ocq6_8_2 => ?_
          refine TO.pure (fun _ s => Rd.one (OwnS.rd (Ent.at 0 rfl)) s) fun ocq6_8_3 => ?_
          refine TO.stB (us := [.slice none 0 0, I (-1), vq6_1_3, vq6_3_3, vq6_5_3]) 2 [.slice none 0 0, I (-1), vq6_1_3, vq6_3_3, vq6_5_3] rfl rfl rfl ksizeB_45_5_true rfl rfl rfl (by intro u hu; simp only [List.mem_cons, List.not_mem_nil, or_false] at hu; rcases hu with rfl | rfl | rfl | rfl | rfl <;> first | exact ocq6_8_1.1 | exact ocq6_8_2.1 | exact ocq6_8_3.1 | rfl) rfl ?_
          refine TA.back (.inl (by kernel_rfl)) ?_
          cases hj16
          refine TA.nil (by kernel_rfl) fun a w e s => ?_
          exact ⟨vq6_1_3, vq6_3_3, vq6_5_3, bq6_7_1, e.sub (lk_of_allIn ⟨rfl, rfl, rfl, rfl, trivial⟩), s.mono fun _ s => (by replace s := Sat.front 4 rfl s; replace s := Sat.front 3 rfl s; replace s := Sat.front 2 rfl s; replace s := Sat.front 4 rfl s; replace s := Sat.front 4 rfl s; exact s)⟩
        · refine TB.of rfl ?_
          refine TO.mkS (f := cI) (za := 0) kelemB_22_3_1_8_true kinfo_3_bind_zero_some_I_0 rfl (by decide) rfl rfl hkq6_5_2 rfl fun vq6_5_3 => ?_
          refine TA.back (.inr (fun _ s => by replace s := Sat.front 3 rfl s; replace s := Sat.erase 1 s; replace s := Sat.erase 1 s; replace s := Sat.erase 1 s; exact s)) ?_
          refine TA.all1 (i := 1) (by kernel_rfl) ?_
          refine TB.of rfl ?_
          refine TO.mkS (f := cI) (za := 0) kelemB_22_3_1_8_true kinfo_3_bind_zero_some_I_0 rfl (by decide) rfl rfl hkq6_1_2 rfl fun vq6_1_3 => ?_
          refine TA.back (.inr (fun _ s => by replace s := Sat.front 4 rfl s; replace s := Sat.erase 1 s; replace s := Sat.erase 1 s; replace s := Sat.erase 1 s; replace s := Sat.erase 1 s; exact s)) ?_
          refine TA.all1 (i := 6) (by kernel_rfl) ?_
          refine TB.of rfl ?_
          refine TO.pure (fun _ s => Rd.one (OwnS.rd (Ent.at 0 rfl)) s) fun ocq6_6_1 => ?_
          refine TO.pure (fun _ s => Rd.one (OwnS.rd (Ent.at 3 rfl)) s) fun ocq6_6_2 => ?_
          refine TO.pure (fun _ s => Rd.one (OwnS.rd (Ent.at 1 rfl)) s) fun ocq6_6_3 => ?_
          refine TO.s rfl rfl rfl (StepS.buildS (us := [(1, I (-1)), (2, .agg #[vq6_1_3]), (3, .agg #[vq6_3_3]), (4, .agg #[vq6_5_3])]) (cs := [.slice none 0 0, I (-1), vq6_1_3, vq6_3_3, vq6_5_3]) rfl (by simp only [List.map_cons, List.map_nil, ocq6_6_1.2, ocq6_6_2.2, ocq6_6_3.2] <;> rfl) (by kernel_rfl)) ?_
          refine TA.back (.inr (fun _ s => by replace s := Sat.front 4 rfl s; replace s := Sat.erase 1 s; replace s := Sat.erase 1 s; replace s := Sat.erase 1 s; replace s := Sat.erase 1 s; exact s)) ?_
          refine TA.all1 (i := 8) (by kernel_rfl) ?_
          refine TB.of rfl ?_
          refine TO.pure (fun _ s => Rd.one (OwnS.rd (Ent.at 0 rfl)) s) fun ocq6_8_1 => ?_
          refine TO.pure (fun _ s => Rd.one (OwnS.rd (Ent.at 3 rfl)) s) fun ocq6_8_2 => ?_
          refine TO.pure (fun _ s => Rd.one (OwnS.rd (Ent.at 1 rfl)) s) fun ocq6_8_3 => ?_
          refine TO.stB (us := [.slice none 0 0, I (-1), vq6_1_3, vq6_3_3, vq6_5_3]) 2 [.slice none 0 0, I (-1), vq6_1_3, vq6_3_3, vq6_5_3] rfl rfl rfl ksizeB_45_5_true rfl rfl rfl (by intro u hu; simp only [List.mem_cons, List.not_mem_nil, or_false] at hu; rcases hu with rfl | rfl | rfl | rfl | rfl <;> first | exact ocq6_8_1.1 | exact ocq6_8_2.1 | exact ocq6_8_3.1 | rfl) rfl ?_
          refine TA.back (.inl (by kernel_rfl)) ?_
          cases hj16
          refine TA.nil (by kernel_rfl) fun a w e s => ?_
          exact ⟨vq6_1_3, vq6_3_3, vq6_5_3, bq6_7_1, e.sub (lk_of_allIn ⟨rfl, rfl, rfl, rfl, trivial⟩), s.mono fun _ s => (by replace s := Sat.front 4 rfl s; replace s := Sat.front 3 rfl s; replace s := Sat.front 3 rfl s; replace s := Sat.front 4 rfl s; replace s := Sat.front 4 rfl s; exact s)⟩
    · refine TB.of rfl ?_
      refine TO.mkS (f := cI) (za := 0) kelemB_22_3_1_8_true kinfo_3_bind_zero_some_I_0 rfl (by decide) rfl rfl hkq6_5_2 rfl fun vq6_5_3 => ?_
      refine TA.back (.inr (fun _ s => by replace s := Sat.front 1 rfl s; replace s := Sat.erase 1 s; exact s)) ?_
      refine TA.all3 (i := 1) (j := 3) (k := 7) (by kernel_rfl) ?_ ?_ ?_
      · refine TB.of rfl ?_
        refine TO.mkS (f := cI) (za := 0) kelemB_22_3_1_8_true kinfo_3_bind_zero_some_I_0 rfl (by decide) rfl rfl hkq6_1_2 rfl fun vq6_1_3 => ?_
        refine TA.back (.inr (fun _ s => by replace s := Sat.front 2 rfl s; replace s := Sat.erase 1 s; replace s := Sat.erase 1 s; exact s)) ?_
        refine TA.all2 (i := 3) (j := 7) (by kernel_rfl) ?_ ?_
        · refine TB.of rfl ?_
          refine TO.mkS (f := cI) (za := 0) kelemB_22_3_1_8_true kinfo_3_bind_zero_some_I_0 rfl (by decide) rfl rfl hkq6_3_2 rfl fun vq6_3_3 => ?_
          refine TA.back (.inr (fun _ s => by replace s := Sat.front 3 rfl s; replace s := Sat.erase 1 s; replace s := Sat.erase 1 s; replace s := Sat.erase 1 s; exact s)) ?_
          refine TA.all2 (i := 6) (j := 7) (by kernel_rfl) ?_ ?_
          · refine TB.of rfl ?_
            refine TO.pure (fun _ s => Rd.one (OwnS.rd (Ent.at 1 rfl)) s) fun ocq6_6_1 => ?_
            refine TO.pure (fun _ s => Rd.one (OwnS.rd (Ent.at 0 rfl)) s) fun ocq6_6_2 => ?_
            refine TO.pure (fun _ s => Rd.one (OwnS.rd (Ent.at 2 rfl)) s) fun ocq6_6_3 => ?_
            refine TO.s rfl rfl rfl (StepS.buildS (us := [(1, I (-1)), (2, .agg #[vq6_1_3]), (3, .agg #[vq6_3_3]), (4, .agg #[vq6_5_3])]) (cs := [.slice none 0 0, I (-1), vq6_1_3, vq6_3_3, vq6_5_3]) rfl (by simp only [List.map_cons, List.map_nil, ocq6_6_1.2, ocq6_6_2.2, ocq6_6_3.2] <;> rfl) (by kernel_rfl)) ?_
            refine TA.back (.inr (fun _ s => by replace s := Sat.front 3 rfl s; replace s := Sat.erase 1 s; replace s := Sat.erase 1 s; replace s := Sat.erase 1 s; exact s)) ?_
            refine TA.all1 (i := 7) (by kernel_rfl) ?_
            refine TB.of rfl ?_
            refine TO.alloc kinfo_45_bind_zero_some_agg_slice_none_0_0_I_0_slice_none_0_0_slice_none_0_0_slice_none_0_0 rfl rfl fun bq6_7_1 => ?_
            refine TA.back (.inr (fun _ s => by replace s := Sat.front 4 rfl s; replace s := Sat.erase 1 s; replace s := Sat.erase 1 s; replace s := Sat.erase 1 s; replace s := Sat.erase 1 s; exact s)) ?_
            refine TA.all1 (i := 8) (by kernel_rfl) ?_
            refine TB.of rfl ?_
            refine TO.pure (fun _ s => Rd.one (OwnS.rd (Ent.at 2 rfl)) s) fun ocq6_8_1 => ?_
            refine TO.pure (fun _ s => Rd.one (OwnS.rd (Ent.at 1 rfl)) s) fun ocq6_8_2 => ?_
            refine TO.pure (fun _ s => Rd.one (OwnS.rd (Ent.at 3 rfl)) s) fun ocq6_8_3 => ?_
            refine TO.stB (us := [.slice none 0 0, I (-1), vq6_1_3, vq6_3_3, vq6_5_3]) 0 [.slice none 0 0, I (-1), vq6_1_3, vq6_3_3, vq6_5_3] rfl rfl rfl ksizeB_45_5_true rfl rfl rfl (by intro u hu; simp only [List.mem_cons, List.not_mem_nil, or_false] at hu; rcases hu with rfl | rfl | rfl | rfl | rfl <;> first | exact ocq6_8_1.1 | exact ocq6_8_2.1 | exact ocq6_8_3.1 | rfl) rfl ?_
            refine TA.back (.inl (by kernel_rfl)) ?_
            cases hj16
            refine TA.nil (by kernel_rfl) fun a w e s => ?_
            exact ⟨vq6_1_3, vq6_3_3, vq6_5_3, bq6_7_1, e.sub (lk_of_allIn ⟨rfl, rfl, rfl, rfl, trivial⟩), s.mono fun _ s => (by replace s := Sat.front 4 rfl s; replace s := Sat.front 1 rfl s; replace s := Sat.front 4 rfl s; replace s := Sat.front 3 rfl s; replace s := Sat.front 4 rfl s; exact s)⟩
          · refine TB.of rfl ?_
            refine TO.alloc kinfo_45_bind_zero_some_agg_slice_none_0_0_I_0_slice_none_0_0_slice_none_0_0_slice_none_0_0 rfl rfl fun bq6_7_1 => ?_
            refine TA.back (.inr (fun _ s => by replace s := Sat.front 4 rfl s; replace s := Sat.erase 1 s; replace s := Sat.erase 1 s; replace s := Sat.erase 1 s; replace s := Sat.erase 1 s; exact s)) ?_
            refine TA.all1 (i := 6) (by kernel_rfl) ?_
            refine TB.of rfl ?_
            refine TO.pure (fun _ s => Rd.one (OwnS.rd (Ent.at 2 rfl)) s) fun ocq6_6_1 => ?_
            refine TO.pure (fun _ s => Rd.one (OwnS.rd (Ent.at 1 rfl)) s) fun ocq6_6_2 => ?_
            refine TO.pure (fun _ s => Rd.one (OwnS.rd (Ent.at 3 rfl)) s) fun ocq6_6_3 => ?_
            refine TO.s rfl rfl rfl (StepS.buildS (us := [(1, I (-1)), (2, .agg #[vq6_1_3]), (3, .agg #[vq6_3_3]), (4, .agg #[vq6_5_3])]) (cs := [.slice none 0 0, I (-1), vq6_1_3, vq6_3_3, vq6_5_3]) rfl (by simp only [List.map_cons, List.map_nil, ocq6_6_1.2, ocq6_6_2.2, ocq6_6_3.2] <;> rfl) (by kernel_rfl)) ?_
            refine TA.back (.inr (fun _ s => by replace s := Sat.front 4 rfl s; replace s := Sat.erase 1 s; replace s := Sat.erase 1 s; replace s := Sat.erase 1 s; replace s := Sat.erase 1 s; exact s)) ?_
            refine TA.all1 (i := 8) (by kernel_rfl) ?_
            refine TB.of rfl ?_
            refine TO.pure (fun _ s => Rd.one (OwnS.rd (Ent.at 2 rfl)) s) fun ocq6_8_1 => ?_
            refine TO.pure (fun _ s => Rd.one (OwnS.rd (Ent.at 1 rfl)) s) fun ocq6_8_2 => ?_
            refine TO.pure (fun _ s => Rd.one (OwnS.rd (Ent.at 3 rfl)) s) fun ocq6_8_3 => ?_
            refine TO.stB (us := [.slice none 0 0, I (-1), vq6_1_3, vq6_3_3, vq6_5_3]) 0 [.slice none 0 0, I (-1), vq6_1_3, vq6_3_3, vq6_5_3] rfl rfl rfl ksizeB_45_5_true rfl rfl rfl (by intro u hu; simp only [List.mem_cons, List.not_mem_nil, or_false] at hu; rcases hu with rfl | rfl | rfl | rfl | rfl <;> first | exact ocq6_8_1.1 | exact ocq6_8_2.1 | exact ocq6_8_3.1 | rfl) rfl ?_
            refine TA.back (.inl (by kernel_rfl)) ?_
            cases hj16
            refine TA.nil (by kernel_rfl) fun a w e s => ?_
            exact ⟨vq6_1_3, vq6_3_3, vq6_5_3, bq6_7_1, e.sub (lk_of_allIn ⟨rfl, rfl, rfl, rfl, trivial⟩), s.mono fun _ s => (by replace s := Sat.front 4 rfl s; replace s := Sat.front 1 rfl s; replace s := Sat.front 4 rfl s; replace s := Sat.front 3 rfl s; replace s := Sat.front 4 rfl s; exact s)⟩
        · refine TB.of rfl ?_
          refine TO.alloc kinfo_45_bind_zero_some_agg_slice_none_0_0_I_0_slice_none_0_0_slice_none_0_0_slice_none_0_0 rfl rfl fun bq6_7_1 => ?_
          refine TA.back (.inr (fun _ s => by replace s := Sat.front 3 rfl s; replace s := Sat.erase 1 s; replace s := Sat.erase 1 s; replace s := Sat.erase 1 s; exact s)) ?_
          refine TA.all1 (i := 3) (by kernel_rfl) ?_
          refine TB.of rfl ?_
          refine TO.mkS (f := cI) (za := 0) kelemB_22_3_1_8_true kinfo_3_bind_zero_some_I_0 rfl (by decide) rfl rfl hkq6_3_2 rfl fun vq6_3_3 => ?_
          refine TA.back (.inr (fun _ s => by replace s := Sat.front 4 rfl s; replace s := Sat.erase 1 s; replace s := Sat.erase 1 s; replace s := Sat.erase 1 s; replace s := Sat.erase 1 s; exact s)) ?_
          refine TA.all1 (i := 6) (by kernel_rfl) ?_
          refine TB.of rfl ?_
          refine TO.pure (fun _ s => Rd.one (OwnS.rd (Ent.at 2 rfl)) s) fun ocq6_6_1 => ?_
          refine TO.pure (fun _ s => Rd.one (OwnS.rd (Ent.at 0 rfl)) s) fun ocq6_6_2 => ?_
          refine TO.pure (fun _ s => Rd.one (OwnS.rd (Ent.at 3 rfl)) s) fun ocq6_6_3 => ?_
          refine TO.s rfl rfl rfl (StepS.buildS (us := [(1, I (-1)), (2, .agg #[vq6_1_3]), (3, .agg #[vq6_3_3]), (4, .agg #[vq6_5_3])]) (cs := [.slice none 0 0, I (-1), vq6_1_3, vq6_3_3, vq6_5_3]) rfl (by simp only [List.map_cons, List.map_nil, ocq6_6_1.2, ocq6_6_2.2, ocq6_6_3.2] <;> rfl) (by kernel_rfl)) ?_
          refine TA.back (.inr (fun _ s => by replace s := Sat.front 4 rfl s; replace s := Sat.erase 1 s; replace s := Sat.erase 1 s; replace s := Sat.erase 1 s; replace s := Sat.erase 1 s; exact s)) ?_
          refine TA.all1 (i := 8) (by kernel_rfl) ?_
          refine TB.of rfl ?_
          refine TO.pure (fun _ s => Rd.one (OwnS.rd (Ent.at 2 rfl)) s) fun ocq6_8_1 => ?_
          refine TO.pure (fun _ s => Rd.one (OwnS.rd (Ent.at 0 rfl)) s) fun ocq6_8_2 => ?_
          refine TO.pure (fun _ s => Rd.one (OwnS.rd (Ent.at 3 rfl)) s) fun ocq6_8_3 => ?_
          refine TO.stB (us := [.slice none 0 0, I (-1), vq6_1_3, vq6_3_3, vq6_5_3]) 1 [.slice none 0 0, I (-1), vq6_1_3, vq6_3_3, vq6_5_3] rfl rfl rfl ksizeB_45_5_true rfl rfl rfl (by intro u hu; simp only [List.mem_cons, List.not_mem_nil, or_false] at hu; rcases hu with rfl | rfl | rfl | rfl | rfl <;> first | exact ocq6_8_1.1 | exact ocq6_8_2.1 | exact ocq6_8_3.1 | rfl) rfl ?_
          refine TA.back (.inl (by kernel_rfl)) ?_
          cases hj16
          refine TA.nil (by kernel_rfl) fun a w e s => ?_
          exact ⟨vq6_1_3, vq6_3_3, vq6_5_3, bq6_7_1, e.sub (lk_of_allIn ⟨rfl, rfl, rfl, rfl, trivial⟩), s.mono fun _ s => (by replace s := Sat.front 4 rfl s; replace s := Sat.front 2 rfl s; replace s := Sat.front 4 rfl s; replace s := Sat.front 3 rfl s; replace s := Sat.front 4 rfl s; exact s)⟩
      · refine TB.of rfl ?_
        refine TO.mkS (f := cI) (za := 0) kelemB_22_3_1_8_true kinfo_3_bind_zero_some_I_0 rfl (by decide) rfl rfl hkq6_3_2 rfl fun vq6_3_3 => ?_
        refine TA.back (.inr (fun _ s => by replace s := Sat.front 2 rfl s; replace s := Sat.erase 1 s; replace s := Sat.erase 1 s; exact s)) ?_
        refine TA.all2 (i := 1) (j := 7) (by kernel_rfl) ?_ ?_
        · refine TB.of rfl ?_
          refine TO.mkS (f := cI) (za := 0) kelemB_22_3_1_8_true kinfo_3_bind_zero_some_I_0 rfl (by decide) rfl rfl hkq6_1_2 rfl fun vq6_1_3 => ?_
          refine TA.back (.inr (fun _ s => by replace s := Sat.front 3 rfl s; replace s := Sat.erase 1 s; replace s := Sat.erase 1 s; replace s := Sat.erase 1 s; exact s)) ?_
          refine TA.all2 (i := 6) (j := 7) (by kernel_rfl) ?_ ?_
          · refine TB.of rfl ?_
            refine TO.pure (fun _ s => Rd.one (OwnS.rd (Ent.at 0 rfl)) s) fun ocq6_6_1 => ?_
            refine TO.pure (fun _ s => Rd.one (OwnS.rd (Ent.at 1 rfl)) s) fun ocq6_6_2 => ?_
            refine TO.pure (fun _ s => Rd.one (OwnS.rd (Ent.at 2 rfl)) s) fun ocq6_6_3 => ?_
            refine TO.s rfl rfl rfl (StepS.buildS (us := [(1, I (-1)), (2, .agg #[vq6_1_3]), (3, .agg #[vq6_3_3]), (4, .agg #[vq6_5_3])]) (cs := [.slice none 0 0, I (-1), vq6_1_3, vq6_3_3, vq6_5_3]) rfl (by simp only [List.map_cons, List.map_nil, ocq6_6_1.2, ocq6_6_2.2, ocq6_6_3.2] <;> rfl) (by kernel_rfl)) ?_
            refine TA.back (.inr (fun _ s => by replace s := Sat.front 3 rfl s; replace s := Sat.erase 1 s; replace s := Sat.erase 1 s; replace s := Sat.erase 1 s; exact s)) ?_
            refine TA.all1 (i := 7) (by kernel_rfl) ?_
            refine TB.of rfl ?_
            refine TO.alloc kinfo_45_bind_zero_some_agg_slice_none_0_0_I_0_slice_none_0_0_slice_none_0_0_slice_none_0_0 rfl rfl fun bq6_7_1 => ?_
            refine TA.back (.inr (fun _ s => by replace s := Sat.front 4 rfl s; replace s := Sat.erase 1 s; replace s := Sat.erase 1 s; replace s := Sat.erase 1 s; replace s := Sat.erase 1 s; exact s)) ?_
            refine TA.all1 (i := 8) (by kernel_rfl) ?_
            refine TB.of rfl ?_
            refine TO.pure (fun _ s => Rd.one (OwnS.rd (Ent.at 1 rfl)) s) fun ocq6_8_1 => ?_
            refine TO.pure (fun _ s => Rd.one (OwnS.rd (Ent.at 2 rfl)) s) fun ocq6_8_2 => ?_
            refine TO.pure (fun _ s => Rd.one (OwnS.rd (Ent.at 3 rfl)) s) fun ocq6_8_3 => ?_
            refine TO.stB (us := [.slice none 0 0, I (-1), vq6_1_3, vq6_3_3, vq6_5_3]) 0 [.slice none 0 0, I (-1), vq6_1_3, vq6_3_3, vq6_5_3] rfl rfl rfl ksizeB_45_5_true rfl rfl rfl (by intro u hu; simp only [List.mem_cons, List.not_mem_nil, or_false] at hu; rcases hu with rfl | rfl | rfl | rfl | rfl <;> first | exact ocq6_8_1.1 | exact ocq6_8_2.1 | exact ocq6_8_3.1 | rfl) rfl ?_
            refine TA.back (.inl (by kernel_rfl)) ?_
            cases hj16
            refine TA.nil (by kernel_rfl) fun a w e s => ?_
            exact ⟨vq6_1_3, vq6_3_3, vq6_5_3, bq6_7_1, e.sub (lk_of_allIn ⟨rfl, rfl, rfl, rfl, trivial⟩), s.mono fun _ s => (by replace s := Sat.front 4 rfl s; replace s := Sat.front 1 rfl s; replace s := Sat.front 4 rfl s; replace s := Sat.front 4 rfl s; replace s := Sat.front 4 rfl s; exact s)⟩
          · refine TB.of rfl ?_
            refine TO.alloc kinfo_45_bind_zero_some_agg_slice_none_0_0_I_0_slice_none_0_0_slice_none_0_0_slice_none_0_0 rfl rfl fun bq6_7_1 => ?_
            refine TA.back (.inr (fun _ s => by replace s := Sat.front 4 rfl s; replace s := Sat.erase 1 s; replace s := Sat.erase 1 s; replace s := Sat.erase 1 s; replace s := Sat.erase 1 s; exact s)) ?_
            refine TA.all1 (i := 6) (by kernel_rfl) ?_
            refine TB.of rfl ?_
            refine TO.pure (fun _ s => Rd.one (OwnS.rd (Ent.at 1 rfl)) s) fun ocq6_6_1 => ?_
            refine TO.pure (fun _ s => Rd.one (OwnS.rd (Ent.at 2 rfl)) s) fun ocq6_6_2 => ?_
            refine TO.pure (fun _ s => Rd.one (OwnS.rd (Ent.at 3 rfl)) s) fun ocq6_6_3 => ?_
            refine TO.s rfl rfl rfl (StepS.buildS (us := [(1, I (-1)), (2, .agg #[vq6_1_3]), (3, .agg #[vq6_3_3]), (4, .agg #[vq6_5_3])]) (cs := [.slice none 0 0, I (-1), vq6_1_3, vq6_3_3, vq6_5_3]) rfl (by simp only [List.map_cons, List.map_nil, ocq6_6_1.2, ocq6_6_2.2, ocq6_6_3.2] <;> rfl) (by kernel_rfl)) ?_
            refine TA.back (.inr (fun _ s => by replace s := Sat.front 4 rfl s; replace s := Sat.erase 1 s; replace s := Sat.erase 1 s; replace s := Sat.erase 1 s; replace s := Sat.erase 1 s; exact s)) ?_
            refine TA.all1 (i := 8) (by kernel_rfl) ?_
            refine TB.of rfl ?_
            refine TO.pure (fun _ s => Rd.one (OwnS.rd (Ent.at 1 rfl)) s) fun ocq6_8_1 => ?_
            refine TO.pure (fun _ s => Rd.one (OwnS.rd (Ent.at 2 rfl)) s) fun ocq6_8_2 => ?_
            refine TO.pure (fun _ s => Rd.one (OwnS.rd (Ent.at 3 rfl)) s) fun ocq6_8_3 => ?_
            refine TO.stB (us := [.slice none 0 0, I (-1), vq6_1_3, vq6_3_3, vq6_5_3]) 0 [.slice none 0 0, I (-1), vq6_1_3, vq6_3_3, vq6_5_3] rfl rfl rfl ksizeB_45_5_true rfl rfl rfl (by intro u hu; simp only [List.mem_cons, List.not_mem_nil, or_false] at hu; rcases hu with rfl | rfl | rfl | rfl | rfl <;> first | exact ocq6_8_1.1 | exact ocq6_8_2.1 | exact ocq6_8_3.1 | rfl) rfl ?_
            refine TA.back (.inl (by kernel_rfl)) ?_
            cases hj16
            refine TA.nil (by kernel_rfl) fun a w e s => ?_
            exact ⟨vq6_1_3, vq6_3_3, vq6_5_3, bq6_7_1, e.sub (lk_of_allIn ⟨rfl, rfl, rfl, rfl, trivial⟩), s.mono fun _ s => (by replace s := Sat.front 4 rfl s; replace s := Sat.front 1 rfl s; replace s := Sat.front 4 rfl s; replace s := Sat.front 4 rfl s; replace s := Sat.front 4 rfl s; exact s)⟩
        · refine TB.of rfl ?_
          refine TO.alloc kinfo_45_bind_zero_some_agg_slice_none_0_0_I_0_slice_none_0_0_slice_none_0_0_slice_none_0_0 rfl rfl fun bq6_7_1 => ?_
          refine TA.back (.inr (fun _ s => by replace s := Sat.front 3 rfl s; replace s := Sat.erase 1 s; replace s := Sat.erase 1 s; replace s := Sat.erase 1 s; exact s)) ?_
          refine TA.all1 (i := 1) (by kernel_rfl) ?_
          refine TB.of rfl ?_
          refine TO.mkS (f := cI) (za := 0) kelemB_22_3_1_8_true kinfo_3_bind_zero_some_I_0 rfl (by decide) rfl rfl hkq6_1_2 rfl fun vq6_1_3 => ?_
          refine TA.back (.inr (fun _ s => by replace s := Sat.front 4 rfl s; replace s := Sat.erase 1 s; replace s := Sat.erase 1 s; replace s := Sat.erase 1 s; replace s := Sat.erase 1 s; exact s)) ?_
          refine TA.all1 (i := 6) (by kernel_rfl) ?_
          refine TB.of rfl ?_
          refine TO.pure (fun _ s => Rd.one (OwnS.rd (Ent.at 0 rfl)) s) fun ocq6_6_1 => ?_
          refine TO.pure (fun _ s => Rd.one (OwnS.rd (Ent.at 2 rfl)) s) fun ocq6_6_2 => ?_
          refine TO.pure (fun _ s => Rd.one (OwnS.rd (Ent.at 3 rfl)) s) fun ocq6_6_3 => ?_
          refine TO.s rfl rfl rfl (StepS.buildS (us := [(1, I (-1)), (2, .agg #[vq6_1_3]), (3, .agg #[vq6_3_3]), (4, .agg #[vq6_5_3])]) (cs := [.slice none 0 0, I (-1), vq6_1_3, vq6_3_3, vq6_5_3]) rfl (by simp only [List.map_cons, List.map_nil, ocq6_6_1.2, ocq6_6_2.2, ocq6_6_3.2] <;> rfl) (by kernel_rfl)) ?_
          refine TA.back (.inr (fun _ s => by replace s := Sat.front 4 rfl s; replace s := Sat.erase 1 s; replace s := Sat.erase 1 s; replace s := Sat.erase 1 s; replace s := Sat.erase 1 s; exact s)) ?_
          refine TA.all1 (i := 8) (by kernel_rfl) ?_
          refine TB.of rfl ?_
          refine TO.pure (fun _ s => Rd.one (OwnS.rd (Ent.at 0 rfl)) s) fun ocq6_8_1 => ?_
          refine TO.pure (fun _ s => Rd.one (OwnS.rd (Ent.at 2 rfl)) s) fun ocq6_8_2 => ?_
          refine TO.pure (fun _ s => Rd.one (OwnS.rd (Ent.at 3 rfl)) s) fun ocq6_8_3 => ?_
          refine TO.stB (us := [.slice none 0 0, I (-1), vq6_1_3, vq6_3_3, vq6_5_3]) 1 [.slice none 0 0, I (-1), vq6_1_3, vq6_3_3, vq6_5_3] rfl rfl rfl ksizeB_45_5_true rfl rfl rfl (by intro u hu; simp only [List.mem_cons, List.not_mem_nil, or_false] at hu; rcases hu with rfl | rfl | rfl | rfl | rfl <;> first | exact ocq6_8_1.1 | exact ocq6_8_2.1 | exact ocq6_8_3.1 | rfl) rfl ?_
          refine TA.back (.inl (by kernel_rfl)) ?_
          cases hj16
          refine TA.nil (by kernel_rfl) fun a w e s => ?_
          exact ⟨vq6_1_3, vq6_3_3, vq6_5_3, bq6_7_1, e.sub (lk_of_allIn ⟨rfl, rfl, rfl, rfl, trivial⟩), s.mono fun _ s => (by replace s := Sat.front 4 rfl s; replace s := Sat.front 2 rfl s; replace s := Sat.front 4 rfl s; replace s := Sat.front 4 rfl s; replace s := Sat.front 4 rfl s; exact s)⟩
      · refine TB.of rfl ?_
        refine TO.alloc kinfo_45_bind_zero_some_agg_slice_none_0_0_I_0_slice_none_0_0_slice_none_0_0_slice_none_0_0 rfl rfl fun bq6_7_1 => ?_
        refine TA.back (.inr (fun _ s => by replace s := Sat.front 2 rfl s; replace s := Sat.erase 1 s; replace s := Sat.erase 1 s; exact s)) ?_
        refine TA.all2 (i := 1) (j := 3) (by kernel_rfl) ?_ ?_
        · refine TB.of rfl ?_
          refine TO.mkS (f := cI) (za := 0) kelemB_22_3_1_8_true kinfo_3_bind_zero_some_I_0 rfl (by decide) rfl rfl hkq6_1_2 rfl fun vq6_1_3 => ?_
          refine TA.back (.inr (fun _ s => by replace s := Sat.front 3 rfl s; replace s := Sat.erase 1 s; replace s := Sat.erase 1 s; replace s := Sat.erase 1 s; exact s)) ?_
          refine TA.all1 (i := 3) (by kernel_rfl) ?_
          refine TB.of rfl ?_
          refine TO.mkS (f := cI) (za := 0) kelemB_22_3_1_8_true kinfo_3_bind_zero_some_I_0 rfl (by decide) rfl rfl hkq6_3_2 rfl fun vq6_3_3 => ?_
          refine TA.back (.inr (fun _ s => by replace s := Sat.front 4 rfl s; replace s := Sat.erase 1 s; replace s := Sat.erase 1 s; replace s := Sat.erase 1 s; replace s := Sat.erase 1 s; exact s)) ?_
          refine TA.all1 (i := 6) (by kernel_rfl) ?_
          refine TB.of rfl ?_
          refine TO.pure (fun _ s => Rd.one (OwnS.rd (Ent.at 1 rfl)) s) fun ocq6_6_1 => ?_
          refine TO.pure (fun _ s => Rd.one (OwnS.rd (Ent.at 0 rfl)) s) fun ocq6_6_2 => ?_
          refine TO.pure (fun _ s => Rd.one (OwnS.rd (Ent.at 3 rfl)) s) fun ocq6_6_3 => ?_
          refine TO.s rfl rfl rfl (StepS.buildS (us := [(1, I (-1)), (2, .agg #[vq6_1_3]), (3, .agg #[vq6_3_3]), (4, .agg #[vq6_5_3])]) (cs := [.slice none 0 0, I (-1), vq6_1_3, vq6_3_3, vq6_5_3]) rfl (by simp only [List.map_cons, List.map_nil, ocq6_6_1.2, ocq6_6_2.2, ocq6_6_3.2] <;> rfl) (by kernel_rfl)) ?_
          refine TA.back (.inr (fun _ s => by replace s := Sat.front 4 rfl s; replace s := Sat.erase 1 s; replace s := Sat.erase 1 s; replace s := Sat.erase 1 s; replace s := Sat.erase 1 s; exact s)) ?_
          refine TA.all1 (i := 8) (by kernel_rfl) ?_
          refine TB.of rfl ?_
          refine TO.pure (fun _ s => Rd.one (OwnS.rd (Ent.at 1 rfl)) s) fun ocq6_8_1 => ?_
          refine TO.pure (fun _ s => Rd.one (OwnS.rd (Ent.at 0 rfl)) s) fun ocq6_8_2 => ?_
          refine TO.pure (fun _ s => Rd.one (OwnS.rd (Ent.at 3 rfl)) s) fun ocq6_8_3 => ?_
          refine TO.stB (us := [.slice none 0 0, I (-1), vq6_1_3, vq6_3_3, vq6_5_3]) 2 [.slice none 0 0, I (-1), vq6_1_3, vq6_3_3, vq6_5_3] rfl rfl rfl ksizeB_45_5_true rfl rfl rfl (by intro u hu; simp only [List.mem_cons, List.not_mem_nil, or_false] at hu; rcases hu with rfl | rfl | rfl | rfl | rfl <;> first | exact ocq6_8_1.1 | exact ocq6_8_2.1 | exact ocq6_8_3.1 | rfl) rfl ?_
          refine TA.back (.inl (by kernel_rfl)) ?_
          cases hj16
          refine TA.nil (by kernel_rfl) fun a w e s => ?_
          exact ⟨vq6_1_3, vq6_3_3, vq6_5_3, bq6_7_1, e.sub (lk_of_allIn ⟨rfl, rfl, rfl, rfl, trivial⟩), s.mono fun _ s => (by replace s := Sat.front 4 rfl s; replace s := Sat.front 3 rfl s; replace s := Sat.front 4 rfl s; replace s := Sat.front 3 rfl s; replace s := Sat.front 4 rfl s; exact s)⟩
        · refine TB.of rfl ?_
          refine TO.mkS (f := cI) (za := 0) kelemB_22_3_1_8_true kinfo_3_bind_zero_some_I_0 rfl (by decide) rfl rfl hkq6_3_2 rfl fun vq6_3_3 => ?_
          refine TA.back (.inr (fun _ s => by replace s := Sat.front 3 rfl s; replace s := Sat.erase 1 s; replace s := Sat.erase 1 s; replace s := Sat.erase 1 s; exact s)) ?_
          refine TA.all1 (i := 1) (by kernel_rfl) ?_
          refine TB.of rfl ?_
          refine TO.mkS (f := cI) (za := 0) kelemB_22_3_1_8_true kinfo_3_bind_zero_some_I_0 rfl (by decide) rfl rfl hkq6_1_2 rfl fun vq6_1_3 => ?_
          refine TA.back (.inr (fun _ s => by replace s := Sat.front 4 rfl s; replace s := Sat.erase 1 s; replace s := Sat.erase 1 s; replace s := Sat.erase 1 s; replace s := Sat.erase 1 s; exact s)) ?_
          refine TA.all1 (i := 6) (by kernel_rfl) ?_
          refine TB.of rfl ?_
          refine TO.pure (fun _ s => Rd.one (OwnS.rd (Ent.at 0 rfl)) s) fun ocq6_6_1 => ?_
          refine TO.pure (fun _ s => Rd.one (OwnS.rd (Ent.at 1 rfl)) s) fun ocq6_6_2 => ?_
          refine TO.pure (fun _ s => Rd.one (OwnS.rd (Ent.at 3 rfl)) s) fun ocq6_6_3 => ?_
          refine TO.s rfl rfl rfl (StepS.buildS (us := [(1, I (-1)), (2, .agg #[vq6_1_3]), (3, .agg #[vq6_3_3]), (4, .agg #[vq6_5_3])]) (cs := [.slice none 0 0, I (-1), vq6_1_3, vq6_3_3, vq6_5_3]) rfl (by simp only [List.map_cons, List.map_nil, ocq6_6_1.2, ocq6_6_2.2, ocq6_6_3.2] <;> rfl) (by kernel_rfl)) ?_
          refine TA.back (.inr (fun _ s => by replace s := Sat.front 4 rfl s; replace s := Sat.erase 1 s; replace s := Sat.erase 1 s; replace s := Sat.erase 1 s; replace s := Sat.erase 1 s; exact s)) ?_
          refine TA.all1 (i := 8) (by kernel_rfl) ?_
          refine TB.of rfl ?_
          refine TO.pure (fun _ s => Rd.one (OwnS.rd (Ent.at 0 rfl)) s) fun ocq6_8_1 => ?_
          refine TO.pure (fun _ s => Rd.one (OwnS.rd (Ent.at 1 rfl)) s) fun ocq6_8_2 => ?_
          refine TO.pure (fun _ s => Rd.one (OwnS.rd (Ent.at 3 rfl)) s) fun ocq6_8_3 => ?_
          refine TO.stB (us := [.slice none 0 0, I (-1), vq6_1_3, vq6_3_3, vq6_5_3]) 2 [.slice none 0 0, I (-1), vq6_1_3, vq6_3_3, vq6_5_3] rfl rfl rfl ksizeB_45_5_true rfl rfl rfl (by intro u hu; simp only [List.mem_cons, List.not_mem_nil, or_false] at hu; rcases hu with rfl | rfl | rfl | rfl | rfl <;> first | exact ocq6_8_1.1 | exact ocq6_8_2.1 | exact ocq6_8_3.1 | rfl) rfl ?_
          refine TA.back (.inl (by kernel_rfl)) ?_
          cases hj16
          refine TA.nil (by kernel_rfl) fun a w e s => ?_
          exact ⟨vq6_1_3, vq6_3_3, vq6_5_3, bq6_7_1, e.sub (lk_of_allIn ⟨rfl, rfl, rfl, rfl, trivial⟩), s.mono fun _ s => (by replace s := Sat.front 4 rfl s; replace s := Sat.front 3 rfl s; replace s := Sat.front 4 rfl s; replace s := Sat.front 4 rfl s; replace s := Sat.front 4 rfl s; exact s)⟩
    · refine TB.of rfl ?_
      refine TO.alloc kinfo_45_bind_zero_some_agg_slice_none_0_0_I_0_slice_none_0_0_slice_none_0_0_slice_none_0_0 rfl rfl fun bq6_7_1 => ?_
      refine TA.back (.inr (fun _ s => by replace s := Sat.front 1 rfl s; replace s := Sat.erase 1 s; exact s)) ?_
      refine TA.all3 (i := 1) (j := 3) (k := 5) (by kernel_rfl) ?_ ?_ ?_
      · refine TB.of rfl ?_
        refine TO.mkS (f := cI) (za := 0) kelemB_22_3_1_8_true kinfo_3_bind_zero_some_I_0 rfl (by decide) rfl rfl hkq6_1_2 rfl fun vq6_1_3 => ?_
        refine TA.back (.inr (fun _ s => by replace s := Sat.front 2 rfl s; replace s := Sat.erase 1 s; replace s := Sat.erase 1 s; exact s)) ?_
        refine TA.all2 (i := 3) (j := 5) (by kernel_rfl) ?_ ?_
        · refine TB.of rfl ?_
          refine TO.mkS (f := cI) (za := 0) kelemB_22_3_1_8_true kinfo_3_bind_zero_some_I_0 rfl (by decide) rfl rfl hkq6_3_2 rfl fun vq6_3_3 => ?_
          refine TA.back (.inr (fun _ s => by replace s := Sat.front 3 rfl s; replace s := Sat.erase 1 s; replace s := Sat.erase 1 s; replace s := Sat.erase 1 s; exact s)) ?_
          refine TA.all1 (i := 5) (by kernel_rfl) ?_
          refine TB.of rfl ?_
          refine TO.mkS (f := cI) (za := 0) kelemB_22_3_1_8_true kinfo_3_bind_zero_some_I_0 rfl (by decide) rfl rfl hkq6_5_2 rfl fun vq6_5_3 => ?_
          refine TA.back (.inr (fun _ s => by replace s := Sat.front 4 rfl s; replace s := Sat.erase 1 s; replace s := Sat.erase 1 s; replace s := Sat.erase 1 s; replace s := Sat.erase 1 s; exact s)) ?_
          refine TA.all1 (i := 6) (by kernel_rfl) ?_
          refine TB.of rfl ?_
          refine TO.pure (fun _ s => Rd.one (OwnS.rd (Ent.at 2 rfl)) s) fun ocq6_6_1 => ?_
          refine TO.pure (fun _ s => Rd.one (OwnS.rd (Ent.at 1 rfl)) s) fun ocq6_6_2 => ?_
          refine TO.pure (fun _ s => Rd.one (OwnS.rd (Ent.at 0 rfl)) s) fun ocq6_6_3 => ?_
          refine TO.s rfl rfl rfl (StepS.buildS (us := [(1, I (-1)), (2, .agg #[vq6_1_3]), (3, .agg #[vq6_3_3]), (4, .agg #[vq6_5_3])]) (cs := [.slice none 0 0, I (-1), vq6_1_3, vq6_3_3, vq6_5_3]) rfl (by simp only [List.map_cons, List.map_nil, ocq6_6_1.2, ocq6_6_2.2, ocq6_6_3.2] <;> rfl) (by kernel_rfl)) ?_
          refine TA.back (.inr (fun _ s => by replace s := Sat.front 4 rfl s; replace s := Sat.erase 1 s; replace s := Sat.erase 1 s; replace s := Sat.erase 1 s; replace s := Sat.erase 1 s; exact s)) ?_
          refine TA.all1 (i := 8) (by kernel_rfl) ?_
          refine TB.of rfl ?_
          refine TO.pure (fun _ s => Rd.one (OwnS.rd (Ent.at 2 rfl)) s) fun ocq6_8_1 => ?_
          refine TO.pure (fun _ s => Rd.one (OwnS.rd (Ent.at 1 rfl)) s) fun ocq6_8_2 => ?_
          refine TO.pure (fun _ s => Rd.one (OwnS.rd (Ent.at 0 rfl)) s) fun ocq6_8_3 => ?_
          refine TO.stB (us := [.slice none 0 0, I (-1), vq6_1_3, vq6_3_3, vq6_5_3]) 3 [.slice none 0 0, I (-1), vq6_1_3, vq6_3_3, vq6_5_3] rfl rfl rfl ksizeB_45_5_true rfl rfl rfl (by intro u hu; simp only [List.mem_cons, List.not_mem_nil, or_false] at hu; rcases hu with rfl | rfl | rfl | rfl | rfl <;> first | exact ocq6_8_1.1 | exact ocq6_8_2.1 | exact ocq6_8_3.1 | rfl) rfl ?_
          refine TA.back (.inl (by kernel_rfl)) ?_
          cases hj16
          refine TA.nil (by kernel_rfl) fun a w e s => ?_
          exact ⟨vq6_1_3, vq6_3_3, vq6_5_3, bq6_7_1, e.sub (lk_of_allIn ⟨rfl, rfl, rfl, rfl, trivial⟩), s.mono fun _ s => (by replace s := Sat.front 4 rfl s; replace s := Sat.front 4 rfl s; replace s := Sat.front 2 rfl s; replace s := Sat.front 3 rfl s; replace s := Sat.front 4 rfl s; exact s)⟩
        · refine TB.of rfl ?_
          refine TO.mkS (f := cI) (za := 0) kelemB_22_3_1_8_true kinfo_3_bind_zero_some_I_0 rfl (by decide) rfl rfl hkq6_5_2 rfl fun vq6_5_3 => ?_
          refine TA.back (.inr (fun _ s => by replace s := Sat.front 3 rfl s; replace s := Sat.erase 1 s; replace s := Sat.erase 1 s; replace s := Sat.erase 1 s; exact s)) ?_
          refine TA.all1 (i := 3) (by kernel_rfl) ?_
          refine TB.of rfl ?_
          refine TO.mkS (f := cI) (za := 0) kelemB_22_3_1_8_true kinfo_3_bind_zero_some_I_0 rfl (by decide) rfl rfl hkq6_3_2 rfl fun vq6_3_3 => ?_
          refine TA.back (.inr (fun _ s => by replace s := Sat.front 4 rfl s; replace s := Sat.erase 1 s; replace s := Sat.erase 1 s; replace s := Sat.erase 1 s; replace s := Sat.erase 1 s; exact s)) ?_
          refine TA.all1 (i := 6) (by kernel_rfl) ?_
          refine TB.of rfl ?_
          refine TO.pure (fun _ s => Rd.one (OwnS.rd (Ent.at 2 rfl)) s) fun ocq6_6_1 => ?_
          refine TO.pure (fun _ s => Rd.one (OwnS.rd (Ent.at 0 rfl)) s) fun ocq6_6_2 => ?_
          refine TO.pure (fun _ s => Rd.one (OwnS.rd (Ent.at 1 rfl)) s) fun ocq6_6_3 => ?_
          refine TO.s rfl rfl rfl (StepS.buildS (us := [(1, I (-1)), (2, .agg #[vq6_1_3]), (3, .agg #[vq6_3_3]), (4, .agg #[vq6_5_3])]) (cs := [.slice none 0 0, I (-1), vq6_1_3, vq6_3_3, vq6_5_3]) rfl (by simp only [List.map_cons, List.map_nil, ocq6_6_1.2, ocq6_6_2.2, ocq6_6_3.2] <;> rfl) (by kernel_rfl)) ?_
          refine TA.back (.inr (fun _ s => by replace s := Sat.front 4 rfl s; replace s := Sat.erase 1 s; replace s := Sat.erase 1 s; replace s := Sat.erase 1 s; replace s := Sat.erase 1 s; exact s)) ?_
          refine TA.all1 (i := 8) (by kernel_rfl) ?_
          refine TB.of rfl ?_
          refine TO.pure (fun _ s => Rd.one (OwnS.rd (Ent.at 2 rfl)) s) fun ocq6_8_1 => ?_
          refine TO.pure (fun _ s => Rd.one (OwnS.rd (Ent.at 0 rfl)) s) fun ocq6_8_2 => ?_
          refine TO.pure (fun _ s => Rd.one (OwnS.rd (Ent.at 1 rfl)) s) fun ocq6_8_3 => ?_
          refine TO.stB (us := [.slice none 0 0, I (-1), vq6_1_3, vq6_3_3, vq6_5_3]) 3 [.slice none 0 0, I (-1), vq6_1_3, vq6_3_3, vq6_5_3] rfl rfl rfl ksizeB_45_5_true rfl rfl rfl (by intro u hu; simp only [List.mem_cons, List.not_mem_nil, or_false] at hu; rcases hu with rfl | rfl | rfl | rfl | rfl <;> first | exact ocq6_8_1.1 | exact ocq6_8_2.1 | exact ocq6_8_3.1 | rfl) rfl ?_
          refine TA.back (.inl (by kernel_rfl)) ?_
          cases hj16
          refine TA.nil (by kernel_rfl) fun a w e s => ?_
          exact ⟨vq6_1_3, vq6_3_3, vq6_5_3, bq6_7_1, e.sub (lk_of_allIn ⟨rfl, rfl, rfl, rfl, trivial⟩), s.mono fun _ s => (by replace s := Sat.front 4 rfl s; replace s := Sat.front 4 rfl s; replace s := Sat.front 3 rfl s; replace s := Sat.front 3 rfl s; replace s := Sat.front 4 rfl s; exact s)⟩
      · refine TB.of rfl ?_
        refine TO.mkS (f := cI) (za := 0) kelemB_22_3_1_8_true kinfo_3_bind_zero_some_I_0 rfl (by decide) rfl rfl hkq6_3_2 rfl fun vq6_3_3 => ?_
        refine TA.back (.inr (fun _ s => by replace s := Sat.front 2 rfl s; replace s := Sat.erase 1 s; replace s := Sat.erase 1 s; exact s)) ?_
        refine TA.all2 (i := 1) (j := 5) (by kernel_rfl) ?_ ?_
        · refine TB.of rfl ?_
          refine TO.mkS (f := cI) (za := 0) kelemB_22_3_1_8_true kinfo_3_bind_zero_some_I_0 rfl (by decide) rfl rfl hkq6_1_2 rfl fun vq6_1_3 => ?_
          refine TA.back (.inr (fun _ s => by replace s := Sat.front 3 rfl s; replace s := Sat.erase 1 s; replace s := Sat.erase 1 s; replace s := Sat.erase 1 s; exact s)) ?_
          refine TA.all1 (i := 5) (by kernel_rfl) ?_
          refine TB.of rfl ?_
          refine TO.mkS (f := cI) (za := 0) kelemB_22_3_1_8_true kinfo_3_bind_zero_some_I_0 rfl (by decide) rfl rfl hkq6_5_2 rfl fun vq6_5_3 => ?_
          refine TA.back (.inr (fun _ s => by replace s := Sat.front 4 rfl s; replace s := Sat.erase 1 s; replace s := Sat.erase 1 s; replace s := Sat.erase 1 s; replace s := Sat.erase 1 s; exact s)) ?_
          refine TA.all1 (i := 6) (by kernel_rfl) ?_
          refine TB.of rfl ?_
          refine TO.pure (fun _ s => Rd.one (OwnS.rd (Ent.at 1 rfl)) s) fun ocq6_6_1 => ?_
          refine TO.pure (fun _ s => Rd.one (OwnS.rd (Ent.at 2 rfl)) s) fun ocq6_6_2 => ?_
          refine TO.pure (fun _ s => Rd.one (OwnS.rd (Ent.at 0 rfl)) s) fun ocq6_6_3 => ?_
          refine TO.s rfl rfl rfl (StepS.buildS (us := [(1, I (-1)), (2, .agg #[vq6_1_3]), (3, .agg #[vq6_3_3]), (4, .agg #[vq6_5_3])]) (cs := [.slice none 0 0, I (-1), vq6_1_3, vq6_3_3, vq6_5_3]) rfl (by simp only [List.map_cons, List.map_nil, ocq6_6_1.2, ocq6_6_2.2, ocq6_6_3.2] <;> rfl) (by kernel_rfl)) ?_
          refine TA.back (.inr (fun _ s => by replace s := Sat.front 4 rfl s; replace s := Sat.erase 1 s; replace s := Sat.erase 1 s; replace s := Sat.erase 1 s; replace s := Sat.erase 1 s; exact s)) ?_
          refine TA.all1 (i := 8) (by kernel_rfl) ?_
          refine TB.of rfl ?_
          refine TO.pure (fun _ s => Rd.one (OwnS.rd (Ent.at 1 rfl)) s) fun ocq6_8_1 => ?_
          refine TO.pure (fun _ s => Rd.one (OwnS.rd (Ent.at 2 rfl)) s) fun ocq6_8_2 => ?_
          refine TO.pure (fun _ s => Rd.one (OwnS.rd (Ent.at 0 rfl)) s) fun ocq6_8_3 => ?_
          refine TO.stB (us := [.slice none 0 0, I (-1), vq6_1_3, vq6_3_3, vq6_5_3]) 3 [.slice none 0 0, I (-1), vq6_1_3, vq6_3_3, vq6_5_3] rfl rfl rfl ksizeB_45_5_true rfl rfl rfl (by intro u hu; simp only [List.mem_cons, List.not_mem_nil, or_false] at hu; rcases hu with rfl | rfl | rfl | rfl | rfl <;> first | exact ocq6_8_1.1 | exact ocq6_8_2.1 | exact ocq6_8_3.1 | rfl) rfl ?_
          refine TA.back (.inl (by kernel_rfl)) ?_
          cases hj16
          refine TA.nil (by kernel_rfl) fun a w e s => ?_
          exact ⟨vq6_1_3, vq6_3_3, vq6_5_3, bq6_7_1, e.sub (lk_of_allIn ⟨rfl, rfl, rfl, rfl, trivial⟩), s.mono fun _ s => (by replace s := Sat.front 4 rfl s; replace s := Sat.front 4 rfl s; replace s := Sat.front 2 rfl s; replace s := Sat.front 4 rfl s; replace s := Sat.front 4 rfl s; exact s)⟩
        · refine TB.of rfl ?_
          refine TO.mkS (f := cI) (za := 0) kelemB_22_3_1_8_true kinfo_3_bind_zero_some_I_0 rfl (by decide) rfl rfl hkq6_5_2 rfl fun vq6_5_3 => ?_
          refine TA.back (.inr (fun _ s => by replace s := Sat.front 3 rfl s; replace s := Sat.erase 1 s; replace s := Sat.erase 1 s; replace s := Sat.erase 1 s; exact s)) ?_
          refine TA.all1 (i := 1) (by kernel_rfl) ?_
          refine TB.of rfl ?_
          refine TO.mkS (f := cI) (za := 0) kelemB_22_3_1_8_true kinfo_3_bind_zero_some_I_0 rfl (by decide) rfl rfl hkq6_1_2 rfl fun vq6_1_3 => ?_
          refine TA.back (.inr (fun _ s => by replace s := Sat.front 4 rfl s; replace s := Sat.erase 1 s; replace s := Sat.erase 1 s; replace s := Sat.erase 1 s; replace s := Sat.erase 1 s; exact s)) ?_
          refine TA.all1 (i := 6) (by kernel_rfl) ?_
          refine TB.of rfl ?_
          refine TO.pure (fun _ s => Rd.one (OwnS.rd (Ent.at 0 rfl)) s) fun ocq6_6_1 => ?_
          refine TO.pure (fun _ s => Rd.one (OwnS.rd (Ent.at 2 rfl)) s) fun ocq6_6_2 => ?_
          refine TO.pure (fun _ s => Rd.one (OwnS.rd (Ent.at 1 rfl)) s) fun ocq6_6_3 => ?_
          refine TO.s rfl rfl rfl (StepS.buildS (us := [(1, I (-1)), (2, .agg #[vq6_1_3]), (3, .agg #[vq6_3_3]), (4, .agg #[vq6_5_3])]) (cs := [.slice none 0 0, I (-1), vq6_1_3, vq6_3_3, vq6_5_3]) rfl (by simp only [List.map_cons, List.map_nil, ocq6_6_1.2, ocq6_6_2.2, ocq6_6_3.2] <;> rfl) (by kernel_rfl)) ?_
          refine TA.back (.inr (fun _ s => by replace s := Sat.front 4 rfl s; replace s := Sat.erase 1 s; replace s := Sat.erase 1 s; replace s := Sat.erase 1 s; replace s := Sat.erase 1 s; exact s)) ?_
          refine TA.all1 (i := 8) (by kernel_rfl) ?_
          refine TB.of rfl ?_
          refine TO.pure (fun _ s => Rd.one (OwnS.rd (Ent.at 0 rfl)) s) fun ocq6_8_1 => ?_
          refine TO.pure (fun _ s => Rd.one (OwnS.rd (Ent.at 2 rfl)) s) fun ocq6_8_2 => ?_
          refine TO.pure (fun _ s => Rd.one (OwnS.rd (Ent.at 1 rfl)) s) fun ocq6_8_3 => ?_
          refine TO.stB (us := [.slice none 0 0, I (-1), vq6_1_3, vq6_3_3, vq6_5_3]) 3 [.slice none 0 0, I (-1), vq6_1_3, vq6_3_3, vq6_5_3] rfl rfl rfl ksizeB_45_5_true rfl rfl rfl (by intro u hu; simp only [List.mem_cons, List.not_mem_nil, or_false] at hu; rcases hu with rfl | rfl | rfl | rfl | rfl <;> first | exact ocq6_8_1.1 | exact ocq6_8_2.1 | exact ocq6_8_3.1 | rfl) rfl ?_
          refine TA.back (.inl (by kernel_rfl)) ?_
          cases hj16
          refine TA.nil (by kernel_rfl) fun a w e s => ?_
          exact ⟨vq6_1_3, vq6_3_3, vq6_5_3, bq6_7_1, e.sub (lk_of_allIn ⟨rfl, rfl, rfl, rfl, trivial⟩), s.mono fun _ s => (by replace s := Sat.front 4 rfl s; replace s := Sat.front 4 rfl s; replace s := Sat.front 3 rfl s; replace s := Sat.front 4 rfl s; replace s := Sat.front 4 rfl s; exact s)⟩
      · refine TB.of rfl ?_
        refine TO.mkS (f := cI) (za := 0) kelemB_22_3_1_8_true kinfo_3_bind_zero_some_I_0 rfl (by decide) rfl rfl hkq6_5_2 rfl fun vq6_5_3 => ?_
        refine TA.back (.inr (fun _ s => by replace s := Sat.front 2 rfl s; replace s := Sat.erase 1 s; replace s := Sat.erase 1 s; exact s)) ?_
        refine TA.all2 (i := 1) (j := 3) (by kernel_rfl) ?_ ?_
        · refine TB.of rfl ?_
          refine TO.mkS (f := cI) (za := 0) kelemB_22_3_1_8_true kinfo_3_bind_zero_some_I_0 rfl (by decide) rfl rfl hkq6_1_2 rfl fun vq6_1_3 => ?_
          refine TA.back (.inr (fun _ s => by replace s := Sat.front 3 rfl s; replace s := Sat.erase 1 s; replace s := Sat.erase 1 s; replace s := Sat.erase 1 s; exact s)) ?_
          refine TA.all1 (i := 3) (by kernel_rfl) ?_
          refine TB.of rfl ?_
          refine TO.mkS (f := cI) (za := 0) kelemB_22_3_1_8_true kinfo_3_bind_zero_some_I_0 rfl (by decide) rfl rfl hkq6_3_2 rfl fun vq6_3_3 => ?_
          refine TA.back (.inr (fun _ s => by replace s := Sat.front 4 rfl s; replace s := Sat.erase 1 s; replace s := Sat.erase 1 s; replace s := Sat.erase 1 s; replace s := Sat.erase 1 s; exact s)) ?_
          refine TA.all1 (i := 6) (by kernel_rfl) ?_
          refine TB.of rfl ?_
          refine TO.pure (fun _ s => Rd.one (OwnS.rd (Ent.at 1 rfl)) s) fun ocq6_6_1 => ?_
          refine TO.pure (fun _ s => Rd.one (OwnS.rd (Ent.at 0 rfl)) s) fun ocq6_6_2 => ?_
          refine TO.pure (fun _ s => Rd.one (OwnS.rd (Ent.at 2 rfl)) s) fun ocq6_6_3 => ?_
          refine TO.s rfl rfl rfl (StepS.buildS (us := [(1, I (-1)), (2, .agg #[vq6_1_3]), (3, .agg #[vq6_3_3]), (4, .agg #[vq6_5_3])]) (cs := [.slice none 0 0, I (-1), vq6_1_3, vq6_3_3, vq6_5_3]) rfl (by simp only [List.map_cons, List.map_nil, ocq6_6_1.2, ocq6_6_2.2, ocq6_6_3.2] <;> rfl) (by kernel_rfl)) ?_
          refine TA.back (.inr (fun _ s => by replace s := Sat.front 4 rfl s; replace s := Sat.erase 1 s; replace s := Sat.erase 1 s; replace s := Sat.erase 1 s; replace s := Sat.erase 1 s; exact s)) ?_
          refine TA.all1 (i := 8) (by kernel_rfl) ?_
          refine TB.of rfl ?_
          refine TO.pure (fun _ s => Rd.one (OwnS.rd (Ent.at 1 rfl)) s) fun ocq6_8_1 => ?_
          refine TO.pure (fun _ s => Rd.one (OwnS.rd (Ent.at 0 rfl)) s) fun ocq6_8_2 => ?_
          refine TO.pure (fun _ s => Rd.one (OwnS.rd (Ent.at 2 rfl)) s) fun ocq6_8_3 => ?_
          refine TO.stB (us := [.slice none 0 0, I (-1), vq6_1_3, vq6_3_3, vq6_5_3]) 3 [.slice none 0 0, I (-1), vq6_1_3, vq6_3_3, vq6_5_3] rfl rfl rfl ksizeB_45_5_true rfl rfl rfl (by intro u hu; simp only [List.mem_cons, List.not_mem_nil, or_false] at hu; rcases hu with rfl | rfl | rfl | rfl | rfl <;> first | exact ocq6_8_1.1 | exact ocq6_8_2.1 | exact ocq6_8_3.1 | rfl) rfl ?_
          refine TA.back (.inl (by kernel_rfl)) ?_
          cases hj16
          refine TA.nil (by kernel_rfl) fun a w e s => ?_
          exact ⟨vq6_1_3, vq6_3_3, vq6_5_3, bq6_7_1, e.sub (lk_of_allIn ⟨rfl, rfl, rfl, rfl, trivial⟩), s.mono fun _ s => (by replace s := Sat.front 4 rfl s; replace s := Sat.front 4 rfl s; replace s := Sat.front 4 rfl s; replace s := Sat.front 3 rfl s; replace s := Sat.front 4 rfl s; exact s)⟩
        · refine TB.of rfl ?_
          refine TO.mkS (f := cI) (za := 0) kelemB_22_3_1_8_true kinfo_3_bind_zero_some_I_0 rfl (by decide) rfl rfl hkq6_3_2 rfl fun vq6_3_3 => ?_
          refine TA.back (.inr (fun _ s => by replace s := Sat.front 3 rfl s; replace s := Sat.erase 1 s; replace s := Sat.erase 1 s; replace s := Sat.erase 1 s; exact s)) ?_
          refine TA.all1 (i := 1) (by kernel_rfl) ?_
          refine TB.of rfl ?_
          refine TO.mkS (f := cI) (za := 0) kelemB_22_3_1_8_true kinfo_3_bind_zero_some_I_0 rfl (by decide) rfl rfl hkq6_1_2 rfl fun vq6_1_3 => ?_
          refine TA.back (.inr (fun _ s => by replace s := Sat.front 4 rfl s; replace s := Sat.erase 1 s; replace s := Sat.erase 1 s; replace s := Sat.erase 1 s; replace s := Sat.erase 1 s; exact s)) ?_
          refine TA.all1 (i := 6) (by kernel_rfl) ?_
          refine TB.of rfl ?_
          refine TO.pure (fun _ s => Rd.one (OwnS.rd (Ent.at 0 rfl)) s) fun ocq6_6_1 => ?_
          refine TO.pure (fun _ s => Rd.one (OwnS.rd (Ent.at 1 rfl)) s) fun ocq6_6_2 => ?_
          refine TO.pure (fun _ s => Rd.one (OwnS.rd (Ent.at 2 rfl)) s) fun ocq6_6_3 => ?_
          refine TO.s rfl rfl rfl (StepS.buildS (us := [(1, I (-1)), (2, .agg #[vq6_1_3]), (3, .agg #[vq6_3_3]), (4, .agg #[vq6_5_3])]) (cs := [.slice none 0 0, I (-1), vq6_1_3, vq6_3_3, vq6_5_3]) rfl (by simp only [List.map_cons, List.map_nil, ocq6_6_1.2, ocq6_6_2.2, ocq6_6_3.2] <;> rfl) (by kernel_rfl)) ?_
          refine TA.back (.inr (fun _ s => by replace s := Sat.front 4 rfl s; replace s := Sat.erase 1 s; replace s := Sat.erase 1 s; replace s := Sat.erase 1 s; replace s := Sat.erase 1 s; exact s)) ?_
          refine TA.all1 (i := 8) (by kernel_rfl) ?_
          refine TB.of rfl ?_
          refine TO.pure (fun _ s => Rd.one (OwnS.rd (Ent.at 0 rfl)) s) fun ocq6_8_1 => ?_
          refine TO.pure (fun _ s => Rd.one (OwnS.rd (Ent.at 1 rfl)) s) fun ocq6_8_2 => ?_
          refine TO.pure (fun _ s => Rd.one (OwnS.rd (Ent.at 2 rfl)) s) fun ocq6_8_3 => ?_
          refine TO.stB (us := [.slice none 0 0, I (-1), vq6_1_3, vq6_3_3, vq6_5_3]) 3 [.slice none 0 0, I (-1), vq6_1_3, vq6_3_3, vq6_5_3] rfl rfl rfl ksizeB_45_5_true rfl rfl rfl (by intro u hu; simp only [List.mem_cons, List.not_mem_nil, or_false] at hu; rcases hu with rfl | rfl | rfl | rfl | rfl <;> first | exact ocq6_8_1.1 | exact ocq6_8_2.1 | exact ocq6_8_3.1 | rfl) rfl ?_
          refine TA.back (.inl (by kernel_rfl)) ?_
          cases hj16
          refine TA.nil (by kernel_rfl) fun a w e s => ?_
          exact ⟨vq6_1_3, vq6_3_3, vq6_5_3, bq6_7_1, e.sub (lk_of_allIn ⟨rfl, rfl, rfl, rfl, trivial⟩), s⟩
  · intro a w ⟨v7, v10, v13, bq6_7_1, he, hs⟩
    refine TC.use ?_ he hs
    refine TC.k ?_
    refine TC.region ?_
    refine TO.s rfl rfl rfl (StepS.assign rfl) ?_
    refine TO.code ?_
    refine TC.k ?_
    refine TC.region ?_
    obtain ⟨y17, hk18, hm⟩ := bind_some hm
    refine TO.mkS (f := cI) (za := 0) kelemB_22_3_1_8_true kinfo_3_bind_zero_some_I_0 rfl (by decide) rfl rfl hk18 rfl fun v19 => ?_
    refine TO.s rfl rfl rfl (StepS.assign rfl) ?_
    refine TO.code ?_
    refine TC.k ?_
    refine TC.region ?_
    refine TO.s rfl rfl rfl (StepS.assign rfl) ?_
    refine TO.code ?_
    refine TC.k ?_
    refine TC.k ?_
    refine TC.region ?_
    refine TO.s rfl rfl rfl (StepS.move rfl) ?_
    refine TO.s rfl rfl rfl (StepS.lenm rfl e1.tl.tl.tl.tl.tl.tl ksliceB_23_106_4_true rfl) ?_
    refine TO.s rfl rfl rfl (StepS.move rfl) ?_
    refine TO.code ?_
    obtain ⟨o59, hw60, hm⟩ := bind_some hm
    refine TC.loop hw60 (fun (y23, y26, y29, y30, y31, y32, y33, x34, x35) => fun a w => ∃ v21 : Value, ∃ v24 : Value, ∃ v27 : Value, Mid 218 B [(0, I a0), (4, .pointer (some ⟨b5, 0, none⟩)), (5, .pointer (some ⟨bq6_7_1, 0, none⟩)), (6, v21), (7, v19), (8, v24), (30, h1), (31, I (a1.length : Int)), (32, I x35)] (OwnS 129 4 v21 (y23.map cTiiii) :: OwnS 114 2 v24 (y26.map cTii) :: OwnS 28 1 v27 (y29.map cI) :: OwnS 3 1 v19 (y30.map cI) :: OwnS 3 1 v7 (y31.map cI) :: OwnS 3 1 v10 (y32.map cI) :: OwnS 3 1 v13 (y33.map cI) :: Bx bq6_7_1 45 [v27, I x34, v7, v10, v13] :: Bx b5 45 [.slice none 0 0, I 0, .slice none 0 0, .slice none 0 0, .slice none 0 0] :: L) a w) (fun (y53, y54, y55, y56, y57, x58) => fun a w => ∃ v51 : Value, Mid 218 B [(4, .pointer (some ⟨b5, 0, none⟩)), (5, .pointer (some ⟨bq6_7_1, 0, none⟩))] (OwnS 28 1 v51 (y53.map cI) :: OwnS 3 1 v19 (y54.map cI) :: OwnS 3 1 v7 (y55.map cI) :: OwnS 3 1 v10 (y56.map cI) :: OwnS 3 1 v13 (y57.map cI) :: Bx bq6_7_1 45 [v51, I x58, v7, v10, v13] :: Bx b5 45 [.slice none 0 0, I 0, .slice none 0 0, .slice none 0 0, .slice none 0 0] :: L) a w) (fun (_ : Unit) _ _ => False) ?_ ?_ ?_ ?_
    · rintro ⟨y23, y26, y29, y30, y31, y32, y33, x34, x35⟩ o59r hb61 a w ⟨v21, v24, v27, he, hs⟩
      dsimp only [F24_L0] at hb61
      refine TC.use ?_ he hs
      refine TC.k ?_
      refine TC.region ?_
      refine TO.s rfl rfl rfl (StepS.cmp rfl rfl rfl) ?_
      refine TO.code ?_
      refine TC.k ?_
      refine TC.cond rfl (fun hc62 => ?_) (fun hc62 => ?_)
      · replace hb61 := cond_t hc62 hb61
        refine TC.skipk ?_
        refine TC.k ?_
        refine TC.block ?_
        refine TC.k ?_
        refine TC.region ?_
        obtain ⟨x63, hx64, hb61⟩ := bind_some hb61
        refine TO.s rfl rfl rfl (StepS.idx rfl rfl e1.tl.tl.tl.tl.tl.tl.tl.tl.tl ksliceB_23_106_4_true (idx_spec hx64).1 (idxm_lt hx64)) ?_
        refine TO.s rfl rfl rfl (StepS.ldE rfl e1.tl.tl.tl.tl.tl.tl.tl.tl.tl kaggB_106_4_true rfl (idxm hx64)) ?_
        refine TO.alloc kinfo_106_bind_zero_some_agg_I_0_I_0_I_0_I_0 rfl rfl fun b65 => ?_
        refine TO.stB (us := [I x63.1, I x63.2.1, I x63.2.2.1, I x63.2.2.2]) 0 [I x63.1, I x63.2.1, I x63.2.2.1, I x63.2.2.2] rfl rfl rfl ksizeB_106_4_true rfl rfl rfl (by simp [Value.oneCell']) rfl ?_
        refine TO.code ?_
        refine TC.k ?_
        refine TC.region ?_
        refine TO.s rfl rfl rfl (StepS.assign rfl) ?_
        refine TO.code ?_
        refine TC.k ?_
        refine TC.region ?_
        refine TO.s rfl rfl rfl (StepS.fld rfl kfieldB_106_1_1_true) ?_
        refine TO.s rfl rfl rfl (StepS.ldB rfl (Ent.at 0 rfl) kscalB_3_true rfl) ?_
        refine TO.s rfl rfl rfl (StepS.assign rfl) ?_
        refine TO.code ?_
        refine TC.k ?_
        refine TC.region ?_
        refine TO.s rfl rfl rfl (StepS.fld rfl kfieldB_106_3_3_true) ?_
        refine TO.s rfl rfl rfl (StepS.ldB rfl (Ent.at 0 rfl) kscalB_3_true rfl) ?_
        refine TO.s rfl rfl rfl (StepS.assign rfl) ?_
        refine TO.code ?_
        refine TC.k ?_
        refine TC.k ?_
        refine TC.region ?_
        refine TO.s rfl rfl rfl (StepS.fld rfl kfieldB_106_0_0_true) ?_
        refine TO.s rfl rfl rfl (StepS.ldB rfl (Ent.at 0 rfl) kscalB_3_true rfl) ?_
        refine TO.s rfl rfl rfl (StepS.cmp rfl rfl rfl) ?_
        refine TO.s rfl rfl rfl (StepS.move rfl) ?_
        refine TO.mid1 4 47 (.bool ((decide (x63.1 < 1)) || (decide (x63.1 > 3)))) ?_ ?_
        · refine bcase ((decide (x63.1 < 1))) (fun hb66 => ?_) (fun hb66 => ?_)
          · refine TO.skip rfl rfl rfl (skipT hb66) rfl rfl ?_
            refine TO.skip rfl rfl rfl (skipT hb66) rfl rfl ?_
            refine TO.skip rfl rfl rfl (skipT hb66) rfl rfl ?_
            refine TO.s rfl rfl rfl (StepS.pickT rfl hb66 rfl) ?_
            exact TO.up1 4 0 rfl rfl (by rw [hb66]; rfl) rfl
          · refine TO.sw rfl rfl rfl hb66 rfl rfl (StepS.fld rfl kfieldB_106_0_0_true) ?_
            refine TO.sw rfl rfl rfl hb66 rfl rfl (StepS.ldB rfl (Ent.at 0 rfl) kscalB_3_true rfl) ?_
            refine TO.sw rfl rfl rfl hb66 rfl rfl (StepS.cmp rfl rfl rfl) ?_
            refine TO.s rfl rfl rfl (StepS.pickF rfl hb66 rfl) ?_
            exact TO.up1 4 0 rfl rfl (by rw [hb66]; rfl) rfl
        refine TO.code ?_
        obtain ⟨⟨y67, y69, y71, y72, y73, y74, x75, x76⟩, hj77, hb61⟩ := bind_some hb61
        first | refine TC.cutM (fun a w => ∃ v68 : Value, ∃ v70 : Value, Mid 218 B [(0, I a0), (4, .pointer (some ⟨b5, 0, none⟩)), (5, .pointer (some ⟨bq6_7_1, 0, none⟩)), (6, v68), (7, v19), (8, v70), (11, I x76), (30, h1), (31, I (a1.length : Int)), (32, I x35)] (Bx b65 106 [I x63.1, I x63.2.1, I x63.2.2.1, I x63.2.2.2] :: OwnS 129 4 v68 (y67.map cTiiii) :: OwnS 114 2 v70 (y69.map cTii) :: OwnS 28 1 v27 (y29.map cI) :: OwnS 3 1 v19 (y71.map cI) :: OwnS 3 1 v7 (y72.map cI) :: OwnS 3 1 v10 (y73.map cI) :: OwnS 3 1 v13 (y74.map cI) :: Bx bq6_7_1 45 [v27, I x75, v7, v10, v13] :: Bx b5 45 [.slice none 0 0, I 0, .slice none 0 0, .slice none 0 0, .slice none 0 0] :: L) a w) ?_ ?_ | refine TC.cutX (fun a w => ∃ v68 : Value, ∃ v70 : Value, Mid 218 B [(0, I a0), (4, .pointer (some ⟨b5, 0, none⟩)), (5, .pointer (some ⟨bq6_7_1, 0, none⟩)), (6, v68), (7, v19), (8, v70), (11, I x76), (30, h1), (31, I (a1.length : Int)), (32, I x35)] (Bx b65 106 [I x63.1, I x63.2.1, I x63.2.2.1, I x63.2.2.2] :: OwnS 129 4 v68 (y67.map cTiiii) :: OwnS 114 2 v70 (y69.map cTii) :: OwnS 28 1 v27 (y29.map cI) :: OwnS 3 1 v19 (y71.map cI) :: OwnS 3 1 v7 (y72.map cI) :: OwnS 3 1 v10 (y73.map cI) :: OwnS 3 1 v13 (y74.map cI) :: Bx bq6_7_1 45 [v27, I x75, v7, v10, v13] :: Bx b5 45 [.slice none 0 0, I 0, .slice none 0 0, .slice none 0 0, .slice none 0 0] :: L) a w) ?_ ?_
        · refine TC.cond rfl (fun hc78 => ?_) (fun hc78 => ?_)
          · replace hj77 := cond_t hc78 hj77
            refine TC.region ?_
            refine TO.s rfl rfl rfl (StepS.assign rfl) ?_
            cases hj77
            refine TO.nil fun a w e s => ?_
            exact ⟨v21, v24, e.sub (lk_of_allIn ⟨rfl, rfl, rfl, rfl, rfl, rfl, rfl, rfl, rfl, rfl, trivial⟩), s⟩
          · replace hj77 := cond_f hc78 hj77
            refine TC.k ?_
            refine TC.region ?_
            refine TO.s rfl rfl rfl (StepS.fld rfl kfieldB_106_0_0_true) ?_
            refine TO.s rfl rfl rfl (StepS.ldB rfl (Ent.at 0 rfl) kscalB_3_true rfl) ?_
            refine TO.s rfl rfl rfl (StepS.cmp rfl rfl rfl) ?_
            refine TO.s rfl rfl rfl (StepS.move rfl) ?_
            refine TO.mid1 8 59 (.bool ((x63.1 != 2) && ((decide (x63.2.1 < 0)) || (decide (x63.2.1 ≥ a0))))) ?_ ?_
            · refine bcase ((x63.1 != 2)) (fun hb79 => ?_) (fun hb79 => ?_)
              · refine TO.sw rfl rfl rfl hb79 rfl rfl (StepS.move rfl) ?_
                refine TO.sw rfl rfl rfl hb79 rfl rfl (StepS.cmp rfl rfl rfl) ?_
                refine TO.sw rfl rfl rfl hb79 rfl rfl (StepS.move rfl) ?_
                refine TO.mid1 4 58 (.bool ((decide (x63.2.1 < 0)) || (decide (x63.2.1 ≥ a0)))) ?_ ?_
                · refine bcase ((decide (x63.2.1 < 0))) (fun hb80 => ?_) (fun hb80 => ?_)
                  · refine TO.skip rfl rfl rfl (skipT hb80) rfl rfl ?_
                    refine TO.skip rfl rfl rfl (skipT hb80) rfl rfl ?_
                    refine TO.skip rfl rfl rfl (skipT hb80) rfl rfl ?_
                    refine TO.sw rfl rfl rfl hb79 rfl rfl (StepS.pickT rfl hb80 rfl) ?_
                    exact TO.up1 4 0 rfl rfl (by rw [hb80]; rfl) rfl
                  · refine TO.sw rfl rfl rfl hb80 rfl rfl (StepS.move rfl) ?_
                    refine TO.sw rfl rfl rfl hb80 rfl rfl (StepS.move rfl) ?_
                    refine TO.sw rfl rfl rfl hb80 rfl rfl (StepS.cmp rfl rfl rfl) ?_
                    refine TO.sw rfl rfl rfl hb79 rfl rfl (StepS.pickF rfl hb80 rfl) ?_
                    exact TO.up1 4 0 rfl rfl (by rw [hb80]; rfl) rfl
                refine TO.s rfl rfl rfl (StepS.pickT rfl hb79 rfl) ?_
                exact TO.up1 5 0 rfl rfl (by rw [hb79]; rfl) rfl
              · refine TO.skip rfl rfl rfl (skipF hb79) rfl rfl ?_
                refine TO.skip rfl rfl rfl (skipF hb79) rfl rfl ?_
                refine TO.skip rfl rfl rfl (skipF hb79) rfl rfl ?_
                refine TO.skip rfl rfl rfl skipU rfl rfl ?_
                refine TO.skip rfl rfl rfl skipU rfl rfl ?_
                refine TO.skip rfl rfl rfl skipU rfl rfl ?_
                refine TO.skip rfl rfl rfl (skipF hb79) rfl rfl ?_
                refine TO.s rfl rfl rfl (StepS.pickF rfl hb79 rfl) ?_
                exact TO.up1 8 0 rfl rfl (by rw [hb79]; rfl) rfl
            refine TO.code ?_
            refine TC.cond rfl (fun hc81 => ?_) (fun hc81 => ?_)
            · replace hj77 := cond_t hc81 hj77
              refine TC.region ?_
              refine TO.s rfl rfl rfl (StepS.assign rfl) ?_
              cases hj77
              refine TO.nil fun a w e s => ?_
              exact ⟨v21, v24, e.sub (lk_of_allIn ⟨rfl, rfl, rfl, rfl, rfl, rfl, rfl, rfl, rfl, rfl, trivial⟩), s⟩
            · replace hj77 := cond_f hc81 hj77
              refine TC.k ?_
              refine TC.region ?_
              refine TO.s rfl rfl rfl (StepS.move rfl) ?_
              refine TO.s rfl rfl rfl (StepS.cmp rfl rfl rfl) ?_
              refine TO.s rfl rfl rfl (StepS.move rfl) ?_
              refine TO.mid1 3 65 (.bool ((decide (x63.2.2.2 < 1)) || (decide (x63.2.2.2 > 9)))) ?_ ?_
              · refine bcase ((decide (x63.2.2.2 < 1))) (fun hb82 => ?_) (fun hb82 => ?_)
                · refine TO.skip rfl rfl rfl (skipT hb82) rfl rfl ?_
                  refine TO.skip rfl rfl rfl (skipT hb82) rfl rfl ?_
                  refine TO.s rfl rfl rfl (StepS.pickT rfl hb82 rfl) ?_
                  exact TO.up1 3 0 rfl rfl (by rw [hb82]; rfl) rfl
                · refine TO.sw rfl rfl rfl hb82 rfl rfl (StepS.move rfl) ?_
                  refine TO.sw rfl rfl rfl hb82 rfl rfl (StepS.cmp rfl rfl rfl) ?_
                  refine TO.s rfl rfl rfl (StepS.pickF rfl hb82 rfl) ?_
                  exact TO.up1 3 0 rfl rfl (by rw [hb82]; rfl) rfl
              refine TO.code ?_
              refine TC.cond rfl (fun hc83 => ?_) (fun hc83 => ?_)
              · replace hj77 := cond_t hc83 hj77
                refine TC.region ?_
                refine TO.s rfl rfl rfl (StepS.assign rfl) ?_
                cases hj77
                refine TO.nil fun a w e s => ?_
                exact ⟨v21, v24, e.sub (lk_of_allIn ⟨rfl, rfl, rfl, rfl, rfl, rfl, rfl, rfl, rfl, rfl, trivial⟩), s⟩
              · replace hj77 := cond_f hc83 hj77
                refine TC.k ?_
                refine TC.region ?_
                refine TO.s rfl rfl rfl (StepS.fld rfl kfieldB_106_0_0_true) ?_
                refine TO.s rfl rfl rfl (StepS.ldB rfl (Ent.at 0 rfl) kscalB_3_true rfl) ?_
                refine TO.s rfl rfl rfl (StepS.cmp rfl rfl rfl) ?_
                refine TO.code ?_
                refine TC.cond rfl (fun hc84 => ?_) (fun hc84 => ?_)
                · replace hj77 := cond_t hc84 hj77
                  refine TC.k ?_
                  refine TC.region ?_
                  refine TO.s rfl rfl rfl (StepS.fld rfl kfieldB_45_2_2_true) ?_
                  refine TO.s rfl rfl rfl (StepS.ldB rfl (Ent.at 8 rfl) kscalB_22_true rfl) ?_
                  refine TO.s rfl rfl rfl (StepS.move rfl) ?_
                  obtain ⟨x85, hx86, hj77⟩ := bind_some hj77
                  refine TO.s rfl rfl rfl (StepS.idx rfl rfl (OwnS.rd (Ent.at 5 rfl)) ksliceB_22_3_1_true (idx_spec hx86).1 (idxm_lt hx86)) ?_
                  refine TO.s rfl rfl rfl (StepS.ld0 rfl (OwnS.rd (Ent.at 5 rfl)) kscalB_3_true rfl (idxm hx86) rfl) ?_
                  refine TO.s rfl rfl rfl (StepS.move rfl) ?_
                  refine TO.s rfl rfl rfl (StepS.cmp rfl rfl rfl) ?_
                  refine TO.code ?_
                  refine TC.cond rfl (fun hc87 => ?_) (fun hc87 => ?_)
                  · replace hj77 := cond_t hc87 hj77
                    refine TC.region ?_
                    refine TO.s rfl rfl rfl (StepS.assign rfl) ?_
                    cases hj77
                    refine TO.nil fun a w e s => ?_
                    exact ⟨v21, v24, e.sub (lk_of_allIn ⟨rfl, rfl, rfl, rfl, rfl, rfl, rfl, rfl, rfl, rfl, trivial⟩), s⟩
                  · replace hj77 := cond_f hc87 hj77
                    refine TC.k ?_
                    refine TC.region ?_
                    refine TO.s rfl rfl rfl (StepS.fld rfl kfieldB_45_2_2_true) ?_
                    refine TO.s rfl rfl rfl (StepS.ldB rfl (Ent.at 8 rfl) kscalB_22_true rfl) ?_
                    refine TO.s rfl rfl rfl (StepS.move rfl) ?_
                    refine TO.s rfl rfl rfl (StepS.move rfl) ?_
                    obtain ⟨x88, hx89, hj77⟩ := bind_some hj77
                    refine TO.s rfl rfl rfl (StepS.idx rfl rfl (OwnS.rd (Ent.at 5 rfl)) ksliceB_22_3_1_true (idx_spec hx89).1 (idxm_lt hx89)) ?_
                    refine TO.stO (i := x63.2.1.toNat) (off := 0) (us := [I x63.2.2.2]) 5 x63.2.2.2 rfl rfl rfl ksizeB_3_1_true rfl rfl rfl (idx_spec hx89).2 rfl (by simp [Value.oneCell']) rfl ?_
                    refine TO.code ?_
                    refine TC.region_any (Bx b65 106 [I x63.1, I x63.2.1, I x63.2.2.1, I x63.2.2.2] :: OwnS 114 2 v24 (y26.map cTii) :: OwnS 28 1 v27 (y29.map cI) :: OwnS 3 1 v19 (y30.map cI) :: OwnS 3 1 v7 ((y31.set x63.2.1.toNat x63.2.2.2).map cI) :: OwnS 3 1 v10 (y32.map cI) :: OwnS 3 1 v13 (y33.map cI) :: Bx bq6_7_1 45 [v27, I x34, v7, v10, v13] :: Bx b5 45 [.slice none 0 0, I 0, .slice none 0 0, .slice none 0 0, .slice none 0 0] :: L) 17 17 kfollows_mixedOrders_true rfl ?_
                    refine TA.takeW 0 rfl rfl rfl rfl (StepS.move rfl) (by kernel_rfl) (by kernel_rfl) (by kernel_rfl) rfl (.inr (fun _ s => by replace s := Sat.front 9 rfl s; replace s := Sat.front 9 rfl s; replace s := Sat.front 9 rfl s; replace s := Sat.front 9 rfl s; replace s := Sat.front 9 rfl s; replace s := Sat.front 9 rfl s; replace s := Sat.front 9 rfl s; replace s := Sat.front 9 rfl s; replace s := Sat.front 8 rfl s; replace s := Sat.erase 9 s; exact s)) ?_
                    refine TA.takeW 1 rfl rfl rfl rfl (StepS.move rfl) (by kernel_rfl) (by kernel_rfl) (by kernel_rfl) rfl (.inr (fun _ s => by replace s := Sat.front 9 rfl s; replace s := Sat.front 9 rfl s; replace s := Sat.front 9 rfl s; replace s := Sat.front 9 rfl s; replace s := Sat.front 9 rfl s; replace s := Sat.front 9 rfl s; replace s := Sat.front 9 rfl s; replace s := Sat.front 9 rfl s; replace s := Sat.front 8 rfl s; replace s := Sat.erase 9 s; exact s)) ?_
                    refine TA.takeW 2 rfl rfl rfl rfl (StepS.move rfl) (by kernel_rfl) (by kernel_rfl) (by kernel_rfl) rfl (.inr (fun _ s => by replace s := Sat.front 9 rfl s; replace s := Sat.front 9 rfl s; replace s := Sat.front 9 rfl s; replace s := Sat.front 9 rfl s; replace s := Sat.front 9 rfl s; replace s := Sat.front 9 rfl s; replace s := Sat.front 9 rfl s; replace s := Sat.front 9 rfl s; replace s := Sat.front 8 rfl s; replace s := Sat.erase 9 s; exact s)) ?_
                    refine TA.takeW 3 rfl rfl rfl rfl (StepS.fld rfl kfieldB_45_3_3_true) (by kernel_rfl) (by kernel_rfl) (by kernel_rfl) rfl (.inr (fun _ s => by replace s := Sat.front 9 rfl s; replace s := Sat.front 9 rfl s; replace s := Sat.front 9 rfl s; replace s := Sat.front 9 rfl s; replace s := Sat.front 9 rfl s; replace s := Sat.front 9 rfl s; replace s := Sat.front 9 rfl s; replace s := Sat.front 9 rfl s; replace s := Sat.front 8 rfl s; replace s := Sat.erase 9 s; exact s)) ?_
                    refine TA.take 4 rfl rfl rfl rfl (StepS.ldB rfl (Ent.at 7 rfl) kscalB_22_true rfl) (by kernel_rfl) (by kernel_rfl) (by kernel_rfl) (by kernel_rfl) (by kernel_rfl) (fun _ s => by replace s := Sat.front 9 rfl s; replace s := Sat.front 9 rfl s; replace s := Sat.front 9 rfl s; replace s := Sat.front 9 rfl s; replace s := Sat.front 9 rfl s; replace s := Sat.front 9 rfl s; replace s := Sat.front 9 rfl s; replace s := Sat.front 9 rfl s; replace s := Sat.front 8 rfl s; replace s := Sat.erase 9 s; exact s) ?_
                    refine TA.takeW 5 rfl rfl rfl rfl (StepS.move rfl) (by kernel_rfl) (by kernel_rfl) (by kernel_rfl) rfl (.inr (fun _ s => by replace s := Sat.front 9 rfl s; replace s := Sat.front 9 rfl s; replace s := Sat.front 9 rfl s; replace s := Sat.front 9 rfl s; replace s := Sat.front 9 rfl s; replace s := Sat.front 9 rfl s; replace s := Sat.front 9 rfl s; replace s := Sat.front 9 rfl s; replace s := Sat.front 8 rfl s; replace s := Sat.erase 9 s; exact s)) ?_
                    obtain ⟨xq90_6_1, hxq90_6_2, hj77⟩ := bind_some hj77
                    refine TA.take 6 rfl rfl rfl rfl (StepS.idx rfl rfl (OwnS.rd (Ent.at 5 rfl)) ksliceB_22_3_1_true (idx_spec hxq90_6_2).1 (idxm_lt hxq90_6_2)) (by kernel_rfl) (by kernel_rfl) (by kernel_rfl) (by kernel_rfl) (by kernel_rfl) (fun _ s => by replace s := Sat.front 9 rfl s; replace s := Sat.front 9 rfl s; replace s := Sat.front 9 rfl s; replace s := Sat.front 9 rfl s; replace s := Sat.front 9 rfl s; replace s := Sat.front 9 rfl s; replace s := Sat.front 9 rfl s; replace s := Sat.front 9 rfl s; replace s := Sat.front 8 rfl s; replace s := Sat.erase 9 s; exact s) ?_
                    refine TA.take 7 rfl rfl rfl rfl (StepS.ld0 rfl (OwnS.rd (Ent.at 5 rfl)) kscalB_3_true rfl (idxm hxq90_6_2) rfl) (by kernel_rfl) (by kernel_rfl) (by kernel_rfl) (by kernel_rfl) (by kernel_rfl) (fun _ s => by replace s := Sat.front 9 rfl s; replace s := Sat.front 9 rfl s; replace s := Sat.front 9 rfl s; replace s := Sat.front 9 rfl s; replace s := Sat.front 9 rfl s; replace s := Sat.front 9 rfl s; replace s := Sat.front 9 rfl s; replace s := Sat.front 9 rfl s; replace s := Sat.front 8 rfl s; replace s := Sat.erase 9 s; exact s) ?_
                    refine TA.takeW 8 rfl rfl rfl rfl (StepS.fld rfl kfieldB_45_4_4_true) (by kernel_rfl) (by kernel_rfl) (by kernel_rfl) rfl (.inr (fun _ s => by replace s := Sat.front 9 rfl s; replace s := Sat.front 9 rfl s; replace s := Sat.front 9 rfl s; replace s := Sat.front 9 rfl s; replace s := Sat.front 9 rfl s; replace s := Sat.front 9 rfl s; replace s := Sat.front 9 rfl s; replace s := Sat.front 9 rfl s; replace s := Sat.front 8 rfl s; replace s := Sat.erase 9 s; exact s)) ?_
                    refine TA.take 9 rfl rfl rfl rfl (StepS.ldB rfl (Ent.at 7 rfl) kscalB_22_true rfl) (by kernel_rfl) (by kernel_rfl) (by kernel_rfl) (by kernel_rfl) (by kernel_rfl) (fun _ s => by replace s := Sat.front 9 rfl s; replace s := Sat.front 9 rfl s; replace s := Sat.front 9 rfl s; replace s := Sat.front 9 rfl s; replace s := Sat.front 9 rfl s; replace s := Sat.front 9 rfl s; replace s := Sat.front 9 rfl s; replace s := Sat.front 9 rfl s; replace s := Sat.front 8 rfl s; replace s := Sat.erase 9 s; exact s) ?_
                    refine TA.takeW 10 rfl rfl rfl rfl (StepS.move rfl) (by kernel_rfl) (by kernel_rfl) (by kernel_rfl) rfl (.inr (fun _ s => by replace s := Sat.front 9 rfl s; replace s := Sat.front 9 rfl s; replace s := Sat.front 9 rfl s; replace s := Sat.front 9 rfl s; replace s := Sat.front 9 rfl s; replace s := Sat.front 9 rfl s; replace s := Sat.front 9 rfl s; replace s := Sat.front 9 rfl s; replace s := Sat.front 8 rfl s; replace s := Sat.erase 9 s; exact s)) ?_
                    obtain ⟨xq90_11_1, hxq90_11_2, hj77⟩ := bind_some hj77
                    refine TA.take 11 rfl rfl rfl rfl (StepS.idx rfl rfl (OwnS.rd (Ent.at 6 rfl)) ksliceB_22_3_1_true (idx_spec hxq90_11_2).1 (idxm_lt hxq90_11_2)) (by kernel_rfl) (by kernel_rfl) (by kernel_rfl) (by kernel_rfl) (by kernel_rfl) (fun _ s => by replace s := Sat.front 9 rfl s; replace s := Sat.front 9 rfl s; replace s := Sat.front 9 rfl s; replace s := Sat.front 9 rfl s; replace s := Sat.front 9 rfl s; replace s := Sat.front 9 rfl s; replace s := Sat.front 9 rfl s; replace s := Sat.front 9 rfl s; replace s := Sat.front 8 rfl s; replace s := Sat.erase 9 s; exact s) ?_
                    refine TA.take 12 rfl rfl rfl rfl (StepS.ld0 rfl (OwnS.rd (Ent.at 6 rfl)) kscalB_3_true rfl (idxm hxq90_11_2) rfl) (by kernel_rfl) (by kernel_rfl) (by kernel_rfl) (by kernel_rfl) (by kernel_rfl) (fun _ s => by replace s := Sat.front 9 rfl s; replace s := Sat.front 9 rfl s; replace s := Sat.front 9 rfl s; replace s := Sat.front 9 rfl s; replace s := Sat.front 9 rfl s; replace s := Sat.front 9 rfl s; replace s := Sat.front 9 rfl s; replace s := Sat.front 9 rfl s; replace s := Sat.front 8 rfl s; replace s := Sat.erase 9 s; exact s) ?_
                    refine TA.takeW 13 rfl rfl rfl rfl (StepS.build (cs := [I x63.2.1, I x63.2.2.2, I xq90_6_1, I xq90_11_1]) rfl (by kernel_rfl)) (by kernel_rfl) (by kernel_rfl) (by kernel_rfl) rfl (.inr (fun _ s => by replace s := Sat.front 9 rfl s; replace s := Sat.front 9 rfl s; replace s := Sat.front 9 rfl s; replace s := Sat.front 9 rfl s; replace s := Sat.front 9 rfl s; replace s := Sat.front 9 rfl s; replace s := Sat.front 9 rfl s; replace s := Sat.front 9 rfl s; replace s := Sat.front 8 rfl s; replace s := Sat.erase 9 s; exact s)) ?_
                    refine TA.all1 (i := 14) (by kernel_rfl) ?_
                    refine TB.of rfl ?_
                    refine TO.litS (f := cTiiii) ([(x63.2.1, x63.2.2.2, xq90_6_1, xq90_11_1)] : List (Int × Int × Int × Int)) kelemB_127_129_4_32_true kinfo_129_bind_zero_some_agg_I_0_I_0_I_0_I_0 rfl rfl (fun _ => rfl) rfl rfl (by kernel_rfl) rfl fun vq90_14_1 => ?_
                    refine TA.back (.inr (fun _ s => by replace s := Sat.front 10 rfl s; replace s := Sat.front 10 rfl s; replace s := Sat.front 10 rfl s; replace s := Sat.front 10 rfl s; replace s := Sat.front 10 rfl s; replace s := Sat.front 10 rfl s; replace s := Sat.front 10 rfl s; replace s := Sat.front 10 rfl s; replace s := Sat.front 9 rfl s; replace s := Sat.erase 9 s; replace s := Sat.erase 9 s; exact s)) ?_
                    refine TA.all1 (i := 15) (by kernel_rfl) ?_
                    refine TB.of rfl ?_
                    obtain ⟨yq90_15_1, hkq90_15_2, hj77⟩ := bind_some hj77
                    refine TO.app (k := 2) (f := cTiiii) kelemB_127_129_4_32_true (by decide) rfl rfl rfl (OwnS.rd (Ent.at 0 rfl)) hkq90_15_2 (fun x c hc => by simp [Value.oneCell'] at hc ⊢; first | (obtain rfl := hc; rfl) | (rcases hc with rfl | rfl | rfl | rfl <;> rfl)) rfl rfl fun vq90_15_3 => ?_
                    refine TA.back (.inr (fun _ s => by replace s := Sat.front 10 rfl s; replace s := Sat.front 10 rfl s; replace s := Sat.front 10 rfl s; replace s := Sat.front 10 rfl s; replace s := Sat.front 10 rfl s; replace s := Sat.front 10 rfl s; replace s := Sat.front 10 rfl s; replace s := Sat.front 10 rfl s; replace s := Sat.front 9 rfl s; replace s := Sat.erase 9 s; replace s := Sat.erase 9 s; exact s)) ?_
                    refine TA.takeW 16 rfl rfl rfl rfl (StepS.assign rfl) (by kernel_rfl) (by kernel_rfl) (by kernel_rfl) rfl (.inr (fun _ s => by replace s := Sat.front 10 rfl s; replace s := Sat.front 10 rfl s; replace s := Sat.front 10 rfl s; replace s := Sat.front 10 rfl s; replace s := Sat.front 10 rfl s; replace s := Sat.front 10 rfl s; replace s := Sat.front 10 rfl s; replace s := Sat.front 10 rfl s; replace s := Sat.front 9 rfl s; replace s := Sat.erase 9 s; replace s := Sat.erase 9 s; exact s)) ?_
                    cases hj77
                    refine TA.nil (by kernel_rfl) fun a w e s => ?_
                    exact ⟨vq90_15_3, v24, e.sub (lk_of_allIn ⟨rfl, rfl, rfl, rfl, rfl, rfl, rfl, rfl, rfl, rfl, trivial⟩), s.mono fun _ => Sat.dropN 1⟩
                · replace hj77 := cond_f hc84 hj77
                  refine TC.k ?_
                  refine TC.region ?_
                  refine TO.s rfl rfl rfl (StepS.fld rfl kfieldB_106_0_0_true) ?_
                  refine TO.s rfl rfl rfl (StepS.ldB rfl (Ent.at 0 rfl) kscalB_3_true rfl) ?_
                  refine TO.s rfl rfl rfl (StepS.cmp rfl rfl rfl) ?_
                  refine TO.code ?_
                  refine TC.cond rfl (fun hc91 => ?_) (fun hc91 => ?_)
                  · replace hj77 := cond_t hc91 hj77
                    refine TC.k ?_
                    refine TC.region ?_
                    refine TO.s rfl rfl rfl (StepS.assign rfl) ?_
                    refine TO.code ?_
                    refine TC.k ?_
                    refine TC.region ?_
                    refine TO.s rfl rfl rfl (StepS.build (cs := [I 0, I 0, I 0, I 0]) rfl (by kernel_rfl)) ?_
                    refine TO.alloc kinfo_129_bind_zero_some_agg_I_0_I_0_I_0_I_0 rfl rfl fun b92 => ?_
                    refine TO.stB (us := [I 0, I 0, I 0, I 0]) 0 [I 0, I 0, I 0, I 0] rfl rfl rfl ksizeB_129_4_true rfl rfl rfl (by simp [Value.oneCell']) rfl ?_
                    refine TO.code ?_
                    refine TC.k ?_
                    refine TC.k ?_
                    refine TC.region ?_
                    refine TO.s rfl rfl rfl (StepS.move rfl) ?_
                    refine TO.s rfl rfl rfl (StepS.lenm rfl (OwnS.rd (Ent.at 2 rfl)) ksliceB_127_129_4_true rfl) ?_
                    refine TO.s rfl rfl rfl (StepS.move rfl) ?_
                    refine TO.code ?_
                    obtain ⟨o110, hw111, hj77⟩ := bind_some hj77
                    refine TC.loop hw111 (fun (x93, x94, x95, x96, x97, x98) => fun a w => Mid 218 B [(0, I a0), (4, .pointer (some ⟨b5, 0, none⟩)), (5, .pointer (some ⟨bq6_7_1, 0, none⟩)), (6, v21), (7, v19), (8, v24), (11, I 0), (13, I x63.2.2.2), (14, I x97), (15, .pointer (some ⟨b92, 0, none⟩)), (30, h1), (31, I (a1.length : Int)), (32, I x35), (101, v21), (102, I (y23.length : Int)), (103, I x98)] (Bx b92 129 [I x93, I x94, I x95, I x96] :: Bx b65 106 [I x63.1, I x63.2.1, I x63.2.2.1, I x63.2.2.2] :: OwnS 129 4 v21 (y23.map cTiiii) :: OwnS 114 2 v24 (y26.map cTii) :: OwnS 28 1 v27 (y29.map cI) :: OwnS 3 1 v19 (y30.map cI) :: OwnS 3 1 v7 (y31.map cI) :: OwnS 3 1 v10 (y32.map cI) :: OwnS 3 1 v13 (y33.map cI) :: Bx bq6_7_1 45 [v27, I x34, v7, v10, v13] :: Bx b5 45 [.slice none 0 0, I 0, .slice none 0 0, .slice none 0 0, .slice none 0 0] :: L) a w) (fun (x105, x106, x107, x108, x109) => fun a w => Mid 218 B [(0, I a0), (4, .pointer (some ⟨b5, 0, none⟩)), (5, .pointer (some ⟨bq6_7_1, 0, none⟩)), (6, v21), (7, v19), (8, v24), (11, I 0), (13, I x63.2.2.2), (14, I x109), (15, .pointer (some ⟨b92, 0, none⟩)), (30, h1), (31, I (a1.length : Int)), (32, I x35)] (Bx b92 129 [I x105, I x106, I x107, I x108] :: Bx b65 106 [I x63.1, I x63.2.1, I x63.2.2.1, I x63.2.2.2] :: OwnS 129 4 v21 (y23.map cTiiii) :: OwnS 114 2 v24 (y26.map cTii) :: OwnS 28 1 v27 (y29.map cI) :: OwnS 3 1 v19 (y30.map cI) :: OwnS 3 1 v7 (y31.map cI) :: OwnS 3 1 v10 (y32.map cI) :: OwnS 3 1 v13 (y33.map cI) :: Bx bq6_7_1 45 [v27, I x34, v7, v10, v13] :: Bx b5 45 [.slice none 0 0, I 0, .slice none 0 0, .slice none 0 0, .slice none 0 0] :: L) a w) (fun (_ : Unit) _ _ => False) ?_ ?_ ?_ ?_
                    · rintro ⟨x93, x94, x95, x96, x97, x98⟩ o110r hb112 a w ⟨he, hs⟩
                      dsimp only [F24_L1] at hb112
                      refine TC.use ?_ he hs
                      refine TC.k ?_
                      refine TC.region ?_
                      refine TO.s rfl rfl rfl (StepS.cmp rfl rfl rfl) ?_
                      refine TO.code ?_
                      refine TC.k ?_
                      refine TC.cond rfl (fun hc113 => ?_) (fun hc113 => ?_)
                      · replace hb112 := cond_t hc113 hb112
                        refine TC.skipk ?_
                        refine TC.k ?_
                        obtain ⟨⟨x114, x115, x116, x117, x118⟩, hj119, hb112⟩ := bind_some hb112
                        first | refine TC.cutM (fun a w => Mid 218 B [(0, I a0), (4, .pointer (some ⟨b5, 0, none⟩)), (5, .pointer (some ⟨bq6_7_1, 0, none⟩)), (6, v21), (7, v19), (8, v24), (11, I 0), (13, I x63.2.2.2), (14, I x118), (15, .pointer (some ⟨b92, 0, none⟩)), (30, h1), (31, I (a1.length : Int)), (32, I x35), (101, v21), (102, I (y23.length : Int)), (103, I x98)] (Bx b92 129 [I x114, I x115, I x116, I x117] :: Bx b65 106 [I x63.1, I x63.2.1, I x63.2.2.1, I x63.2.2.2] :: OwnS 129 4 v21 (y23.map cTiiii) :: OwnS 114 2 v24 (y26.map cTii) :: OwnS 28 1 v27 (y29.map cI) :: OwnS 3 1 v19 (y30.map cI) :: OwnS 3 1 v7 (y31.map cI) :: OwnS 3 1 v10 (y32.map cI) :: OwnS 3 1 v13 (y33.map cI) :: Bx bq6_7_1 45 [v27, I x34, v7, v10, v13] :: Bx b5 45 [.slice none 0 0, I 0, .slice none 0 0, .slice none 0 0, .slice none 0 0] :: L) a w) ?_ ?_ | refine TC.cutX (fun a w => Mid 218 B [(0, I a0), (4, .pointer (some ⟨b5, 0, none⟩)), (5, .pointer (some ⟨bq6_7_1, 0, none⟩)), (6, v21), (7, v19), (8, v24), (11, I 0), (13, I x63.2.2.2), (14, I x118), (15, .pointer (some ⟨b92, 0, none⟩)), (30, h1), (31, I (a1.length : Int)), (32, I x35), (101, v21), (102, I (y23.length : Int)), (103, I x98)] (Bx b92 129 [I x114, I x115, I x116, I x117] :: Bx b65 106 [I x63.1, I x63.2.1, I x63.2.2.1, I x63.2.2.2] :: OwnS 129 4 v21 (y23.map cTiiii) :: OwnS 114 2 v24 (y26.map cTii) :: OwnS 28 1 v27 (y29.map cI) :: OwnS 3 1 v19 (y30.map cI) :: OwnS 3 1 v7 (y31.map cI) :: OwnS 3 1 v10 (y32.map cI) :: OwnS 3 1 v13 (y33.map cI) :: Bx bq6_7_1 45 [v27, I x34, v7, v10, v13] :: Bx b5 45 [.slice none 0 0, I 0, .slice none 0 0, .slice none 0 0, .slice none 0 0] :: L) a w) ?_ ?_
                        · refine TC.block ?_
                          refine TC.k ?_
                          refine TC.region ?_
                          obtain ⟨x120, hx121, hj119⟩ := bind_some hj119
                          refine TO.s rfl rfl rfl (StepS.idx rfl rfl (OwnS.rd (Ent.at 2 rfl)) ksliceB_127_129_4_true (idx_spec hx121).1 (idxm_lt hx121)) ?_
                          refine TO.s rfl rfl rfl (StepS.ldE rfl (OwnS.rd (Ent.at 2 rfl)) kaggB_129_4_true rfl (idxm hx121)) ?_
                          refine TO.alloc kinfo_129_bind_zero_some_agg_I_0_I_0_I_0_I_0 rfl rfl fun b122 => ?_
                          refine TO.stB (us := [I x120.1, I x120.2.1, I x120.2.2.1, I x120.2.2.2]) 0 [I x120.1, I x120.2.1, I x120.2.2.1, I x120.2.2.2] rfl rfl rfl ksizeB_129_4_true rfl rfl rfl (by simp [Value.oneCell']) rfl ?_
                          refine TO.code ?_
                          refine TC.k ?_
                          refine TC.region ?_
                          refine TO.s rfl rfl rfl (StepS.fld rfl kfieldB_129_1_1_true) ?_
                          refine TO.s rfl rfl rfl (StepS.ldB rfl (Ent.at 0 rfl) kscalB_3_true rfl) ?_
                          refine TO.s rfl rfl rfl (StepS.move rfl) ?_
                          refine TO.s rfl rfl rfl (StepS.cmp rfl rfl rfl) ?_
                          refine TO.code ?_
                          refine TC.cond rfl (fun hc123 => ?_) (fun hc123 => ?_)
                          · replace hj119 := cond_t hc123 hj119
                            refine TC.k ?_
                            refine TC.region ?_
                            refine TO.s rfl rfl rfl (StepS.move rfl) ?_
                            refine TO.s rfl rfl rfl (StepS.ari rfl rfl rfl) ?_
                            refine TO.s rfl rfl rfl (StepS.assign rfl) ?_
                            refine TO.code ?_
                            refine TC.k ?_
                            refine TC.region ?_
                            refine TO.s rfl rfl rfl (StepS.fld rfl kfieldB_129_2_2_true) ?_
                            refine TO.s rfl rfl rfl (StepS.ldB rfl (Ent.at 0 rfl) kscalB_3_true rfl) ?_
                            refine TO.s rfl rfl rfl (StepS.fld rfl kfieldB_129_2_2_true) ?_
                            refine TO.s rfl rfl rfl (StepS.ldB rfl (Ent.at 1 rfl) kscalB_3_true rfl) ?_
                            refine TO.s rfl rfl rfl (StepS.cmp rfl rfl rfl) ?_
                            refine TO.code ?_
                            refine TC.cond rfl (fun hc124 => ?_) (fun hc124 => ?_)
                            · replace hj119 := cond_t hc124 hj119
                              refine TC.region ?_
                              refine TO.s rfl rfl rfl (StepS.ldBA rfl (Ent.at 0 rfl) kaggB_129_4_true rfl rfl) ?_
                              refine TO.stB (us := [I x120.1, I x120.2.1, I x120.2.2.1, I x120.2.2.2]) 1 [I x120.1, I x120.2.1, I x120.2.2.1, I x120.2.2.2] rfl rfl rfl ksizeB_129_4_true rfl rfl rfl (by simp [Value.oneCell']) rfl ?_
                              cases hj119
                              refine TO.nil fun a w e s => ?_
                              exact ⟨e.sub (lk_of_allIn ⟨rfl, rfl, rfl, rfl, rfl, rfl, rfl, rfl, rfl, rfl, rfl, rfl, rfl, rfl, rfl, rfl, trivial⟩), s.mono fun _ => Sat.dropN 1⟩
                            · replace hj119 := cond_f hc124 hj119
                              cases hj119
                              refine TC.skip fun a w e s => ?_
                              exact ⟨e.sub (lk_of_allIn ⟨rfl, rfl, rfl, rfl, rfl, rfl, rfl, rfl, rfl, rfl, rfl, rfl, rfl, rfl, rfl, rfl, trivial⟩), s.mono fun _ => Sat.dropN 1⟩
                          · replace hj119 := cond_f hc123 hj119
                            cases hj119
                            refine TC.skip fun a w e s => ?_
                            exact ⟨e.sub (lk_of_allIn ⟨rfl, rfl, rfl, rfl, rfl, rfl, rfl, rfl, rfl, rfl, rfl, rfl, rfl, rfl, rfl, rfl, trivial⟩), s.mono fun _ => Sat.dropN 1⟩
                        · intro a w ⟨he, hs⟩
                          refine TC.use ?_ he hs
                          refine TC.region ?_
                          refine TO.s rfl rfl rfl (StepS.ari rfl rfl rfl) ?_
                          refine TO.s rfl rfl rfl (StepS.move rfl) ?_
                          cases hb112
                          refine TO.nil fun a w e s => ?_
                          exact ⟨e.sub (lk_of_allIn ⟨rfl, rfl, rfl, rfl, rfl, rfl, rfl, rfl, rfl, rfl, rfl, rfl, rfl, rfl, rfl, rfl, trivial⟩), s⟩
                      · replace hb112 := cond_f hc113 hb112
                        cases hb112
                        refine TC.exit rfl fun a w e s => ?_
                        exact ⟨e.sub (lk_of_allIn ⟨rfl, rfl, rfl, rfl, rfl, rfl, rfl, rfl, rfl, rfl, rfl, rfl, rfl, trivial⟩), s⟩
                    · exact fun a w e s => ⟨e.sub (lk_of_allIn ⟨rfl, rfl, rfl, rfl, rfl, rfl, rfl, rfl, rfl, rfl, rfl, rfl, rfl, rfl, rfl, rfl, trivial⟩), s⟩
                    · rintro ⟨x105, x106, x107, x108, x109⟩ rfl a w ⟨he, hs⟩
                      dsimp only [Ctl.on] at hj77
                      refine TC.use ?_ he hs
                      refine TC.k ?_
                      refine TC.region ?_
                      refine TO.s rfl rfl rfl (StepS.move rfl) ?_
                      refine TO.s rfl rfl rfl (StepS.move rfl) ?_
                      obtain ⟨x125, hx126, hj77⟩ := bind_some hj77
                      refine TO.s rfl rfl rfl (StepS.idx rfl rfl (OwnS.rd (Ent.at 5 rfl)) ksliceB_22_3_1_true (idx_spec hx126).1 (idxm_lt hx126)) ?_
                      refine TO.s rfl rfl rfl (StepS.ld0 rfl (OwnS.rd (Ent.at 5 rfl)) kscalB_3_true rfl (idxm hx126) rfl) ?_
                      refine TO.s rfl rfl rfl (StepS.cmp rfl rfl rfl) ?_
                      refine TO.code ?_
                      refine TC.cond rfl (fun hc127 => ?_) (fun hc127 => ?_)
                      · replace hj77 := cond_t hc127 hj77
                        refine TC.region ?_
                        refine TO.s rfl rfl rfl (StepS.assign rfl) ?_
                        cases hj77
                        refine TO.nil fun a w e s => ?_
                        exact ⟨v21, v24, e.sub (lk_of_allIn ⟨rfl, rfl, rfl, rfl, rfl, rfl, rfl, rfl, rfl, rfl, trivial⟩), s.mono fun _ => Sat.dropN 1⟩
                      · replace hj77 := cond_f hc127 hj77
                        refine TC.k ?_
                        refine TC.region ?_
                        refine TO.s rfl rfl rfl (StepS.move rfl) ?_
                        refine TO.s rfl rfl rfl (StepS.ari rfl rfl rfl) ?_
                        refine TO.s rfl rfl rfl (StepS.move rfl) ?_
                        refine TO.s rfl rfl rfl (StepS.cmp rfl rfl rfl) ?_
                        refine TO.code ?_
                        refine TC.cond rfl (fun hc128 => ?_) (fun hc128 => ?_)
                        · replace hj77 := cond_t hc128 hj77
                          refine TC.region ?_
                          refine TO.s rfl rfl rfl (StepS.assign rfl) ?_
                          cases hj77
                          refine TO.nil fun a w e s => ?_
                          exact ⟨v21, v24, e.sub (lk_of_allIn ⟨rfl, rfl, rfl, rfl, rfl, rfl, rfl, rfl, rfl, rfl, trivial⟩), s.mono fun _ => Sat.dropN 1⟩
                        · replace hj77 := cond_f hc128 hj77
                          refine TC.k ?_
                          refine TC.region ?_
                          refine TO.s rfl rfl rfl (StepS.fld rfl kfieldB_129_2_2_true) ?_
                          refine TO.s rfl rfl rfl (StepS.ldB rfl (Ent.at 0 rfl) kscalB_3_true rfl) ?_
                          refine TO.s rfl rfl rfl (StepS.cmp rfl rfl rfl) ?_
                          refine TO.code ?_
                          refine TC.cond rfl (fun hc129 => ?_) (fun hc129 => ?_)
                          · replace hj77 := cond_t hc129 hj77
                            refine TC.region ?_
                            refine TO.s rfl rfl rfl (StepS.move rfl) ?_
                            refine TO.s rfl rfl rfl (StepS.move rfl) ?_
                            refine TO.s rfl rfl rfl (StepS.fld rfl kfieldB_129_3_3_true) ?_
                            refine TO.s rfl rfl rfl (StepS.ldB rfl (Ent.at 0 rfl) kscalB_3_true rfl) ?_
                            obtain ⟨x130, hx131, hj77⟩ := bind_some hj77
                            refine TO.s rfl rfl rfl (StepS.idx rfl rfl (OwnS.rd (Ent.at 5 rfl)) ksliceB_22_3_1_true (idx_spec hx131).1 (idxm_lt hx131)) ?_
                            refine TO.stO (i := x63.2.2.2.toNat) (off := 0) (us := [I x108]) 5 x108 rfl rfl rfl ksizeB_3_1_true rfl rfl rfl (idx_spec hx131).2 rfl (by simp [Value.oneCell']) rfl ?_
                            cases hj77
                            refine TO.nil fun a w e s => ?_
                            exact ⟨v21, v24, e.sub (lk_of_allIn ⟨rfl, rfl, rfl, rfl, rfl, rfl, rfl, rfl, rfl, rfl, trivial⟩), s.mono fun _ => Sat.dropN 1⟩
                          · replace hj77 := cond_f hc129 hj77
                            refine TC.region ?_
                            refine TO.s rfl rfl rfl (StepS.move rfl) ?_
                            refine TO.s rfl rfl rfl (StepS.move rfl) ?_
                            refine TO.s rfl rfl rfl (StepS.move rfl) ?_
                            obtain ⟨x132, hx133, hj77⟩ := bind_some hj77
                            refine TO.s rfl rfl rfl (StepS.idx rfl rfl (OwnS.rd (Ent.at 5 rfl)) ksliceB_22_3_1_true (idx_spec hx133).1 (idxm_lt hx133)) ?_
                            refine TO.stO (i := x63.2.2.2.toNat) (off := 0) (us := [I x63.2.2.2]) 5 x63.2.2.2 rfl rfl rfl ksizeB_3_1_true rfl rfl rfl (idx_spec hx133).2 rfl (by simp [Value.oneCell']) rfl ?_
                            cases hj77
                            refine TO.nil fun a w e s => ?_
                            exact ⟨v21, v24, e.sub (lk_of_allIn ⟨rfl, rfl, rfl, rfl, rfl, rfl, rfl, rfl, rfl, rfl, trivial⟩), s.mono fun _ => Sat.dropN 1⟩
                    · rintro r rfl
                      exact fun a w h => h.elim
                  · replace hj77 := cond_f hc91 hj77
                    refine TC.k ?_
                    refine TC.region ?_
                    refine TO.s rfl rfl rfl (StepS.move rfl) ?_
                    refine TO.s rfl rfl rfl (StepS.move rfl) ?_
                    obtain ⟨x134, hx135, hj77⟩ := bind_some hj77
                    refine TO.s rfl rfl rfl (StepS.idx rfl rfl (OwnS.rd (Ent.at 4 rfl)) ksliceB_22_3_1_true (idx_spec hx135).1 (idxm_lt hx135)) ?_
                    refine TO.s rfl rfl rfl (StepS.ld0 rfl (OwnS.rd (Ent.at 4 rfl)) kscalB_3_true rfl (idxm hx135) rfl) ?_
                    refine TO.s rfl rfl rfl (StepS.cmp rfl rfl rfl) ?_
                    refine TO.code ?_
                    refine TC.cond rfl (fun hc136 => ?_) (fun hc136 => ?_)
                    · replace hj77 := cond_t hc136 hj77
                      refine TC.region ?_
                      refine TO.s rfl rfl rfl (StepS.assign rfl) ?_
                      cases hj77
                      refine TO.nil fun a w e s => ?_
                      exact ⟨v21, v24, e.sub (lk_of_allIn ⟨rfl, rfl, rfl, rfl, rfl, rfl, rfl, rfl, rfl, rfl, trivial⟩), s⟩
                    · replace hj77 := cond_f hc136 hj77
                      refine TC.k ?_
                      refine TC.region ?_
                      refine TO.s rfl rfl rfl (StepS.fld rfl kfieldB_45_2_2_true) ?_
                      refine TO.s rfl rfl rfl (StepS.ldB rfl (Ent.at 8 rfl) kscalB_22_true rfl) ?_
                      refine TO.s rfl rfl rfl (StepS.move rfl) ?_
                      obtain ⟨x137, hx138, hj77⟩ := bind_some hj77
                      refine TO.s rfl rfl rfl (StepS.idx rfl rfl (OwnS.rd (Ent.at 5 rfl)) ksliceB_22_3_1_true (idx_spec hx138).1 (idxm_lt hx138)) ?_
                      refine TO.s rfl rfl rfl (StepS.ld0 rfl (OwnS.rd (Ent.at 5 rfl)) kscalB_3_true rfl (idxm hx138) rfl) ?_
                      refine TO.s rfl rfl rfl (StepS.move rfl) ?_
                      refine TO.s rfl rfl rfl (StepS.cmp rfl rfl rfl) ?_
                      refine TO.code ?_
                      refine TC.cond rfl (fun hc139 => ?_) (fun hc139 => ?_)
                      · replace hj77 := cond_t hc139 hj77
                        refine TC.region ?_
                        refine TO.s rfl rfl rfl (StepS.assign rfl) ?_
                        cases hj77
                        refine TO.nil fun a w e s => ?_
                        exact ⟨v21, v24, e.sub (lk_of_allIn ⟨rfl, rfl, rfl, rfl, rfl, rfl, rfl, rfl, rfl, rfl, trivial⟩), s⟩
                      · replace hj77 := cond_f hc139 hj77
                        refine TC.k ?_
                        refine TC.region ?_
                        refine TO.s rfl rfl rfl (StepS.fld rfl kfieldB_45_2_2_true) ?_
                        refine TO.s rfl rfl rfl (StepS.ldB rfl (Ent.at 8 rfl) kscalB_22_true rfl) ?_
                        refine TO.s rfl rfl rfl (StepS.move rfl) ?_
                        refine TO.s rfl rfl rfl (StepS.move rfl) ?_
                        obtain ⟨x140, hx141, hj77⟩ := bind_some hj77
                        refine TO.s rfl rfl rfl (StepS.idx rfl rfl (OwnS.rd (Ent.at 5 rfl)) ksliceB_22_3_1_true (idx_spec hx141).1 (idxm_lt hx141)) ?_
                        refine TO.stO (i := x63.2.1.toNat) (off := 0) (us := [I x63.2.2.2]) 5 x63.2.2.2 rfl rfl rfl ksizeB_3_1_true rfl rfl rfl (idx_spec hx141).2 rfl (by simp [Value.oneCell']) rfl ?_
                        refine TO.code ?_
                        refine TC.k ?_
                        refine TC.region ?_
                        refine TO.s rfl rfl rfl (StepS.fld rfl kfieldB_45_3_3_true) ?_
                        refine TO.s rfl rfl rfl (StepS.ldB rfl (Ent.at 8 rfl) kscalB_22_true rfl) ?_
                        refine TO.s rfl rfl rfl (StepS.move rfl) ?_
                        refine TO.s rfl rfl rfl (StepS.move rfl) ?_
                        obtain ⟨x142, hx143, hj77⟩ := bind_some hj77
                        refine TO.s rfl rfl rfl (StepS.idx rfl rfl (OwnS.rd (Ent.at 6 rfl)) ksliceB_22_3_1_true (idx_spec hx143).1 (idxm_lt hx143)) ?_
                        refine TO.stO (i := x63.2.1.toNat) (off := 0) (us := [I x63.2.2.2]) 6 x63.2.2.2 rfl rfl rfl ksizeB_3_1_true rfl rfl rfl (idx_spec hx143).2 rfl (by simp [Value.oneCell']) rfl ?_
                        refine TO.code ?_
                        refine TC.k ?_
                        refine TC.region_tail 8 kfollows_mixedOrders_true (by kernel_rfl) ?_
                        refine TS.s rfl rfl rfl (StepS.fld rfl kfieldB_45_4_4_true) ?_
                        refine TS.s rfl rfl rfl (StepS.ldB rfl (Ent.at 8 rfl) kscalB_22_true rfl) ?_
                        refine TS.s rfl rfl rfl (StepS.move rfl) ?_
                        refine TS.s rfl rfl rfl (StepS.move rfl) ?_
                        refine TS.s rfl rfl rfl (StepS.move rfl) ?_
                        obtain ⟨x144, hx145, hj77⟩ := bind_some hj77
                        refine TS.s rfl rfl rfl (StepS.idx rfl rfl (OwnS.rd (Ent.at 4 rfl)) ksliceB_22_3_1_true (idx_spec hx145).1 (idxm_lt hx145)) ?_
                        refine TS.s rfl rfl rfl (StepS.ld0 rfl (OwnS.rd (Ent.at 4 rfl)) kscalB_3_true rfl (idxm hx145) rfl) ?_
                        obtain ⟨x146, hx147, hj77⟩ := bind_some hj77
                        refine TS.s rfl rfl rfl (StepS.idx rfl rfl (OwnS.rd (Ent.at 7 rfl)) ksliceB_22_3_1_true (idx_spec hx147).1 (idxm_lt hx147)) ?_
                        refine TS.nil ?_
                        refine TO.at ?_
                        refine TO.stO (i := x63.2.1.toNat) (off := 0) (us := [I x144]) 7 x144 rfl rfl rfl ksizeB_3_1_true rfl rfl rfl (idx_spec hx147).2 rfl (by simp [Value.oneCell']) rfl ?_
                        refine TO.code ?_
                        refine TC.k ?_
                        refine TC.region ?_
                        refine TO.s rfl rfl rfl (StepS.move rfl) ?_
                        refine TO.s rfl rfl rfl (StepS.move rfl) ?_
                        refine TO.s rfl rfl rfl (StepS.move rfl) ?_
                        refine TO.s rfl rfl rfl (StepS.build (cs := [I x63.2.2.2, I x63.2.1]) rfl (by kernel_rfl)) ?_
                        refine TO.litS (f := cTii) ([(x63.2.2.2, x63.2.1)] : List (Int × Int)) kelemB_85_114_2_16_true kinfo_114_bind_zero_some_agg_I_0_I_0 rfl rfl (fun _ => rfl) rfl rfl (by kernel_rfl) rfl fun v148 => ?_
                        obtain ⟨y150, hk151, hj77⟩ := bind_some hj77
                        refine TO.app (k := 3) (f := cTii) kelemB_85_114_2_16_true (by decide) rfl rfl rfl (OwnS.rd (Ent.at 0 rfl)) hk151 (fun x c hc => by simp [Value.oneCell'] at hc ⊢; first | (obtain rfl := hc; rfl) | (rcases hc with rfl | rfl <;> rfl)) rfl rfl fun v152 => ?_
                        refine TO.s rfl rfl rfl (StepS.assign rfl) ?_
                        refine TO.code ?_
                        refine TC.k ?_
                        refine TC.region ?_
                        refine TO.s rfl rfl rfl (StepS.assign rfl) ?_
                        refine TO.code ?_
                        refine TC.k ?_
                        refine TC.k ?_
                        refine TC.region ?_
                        refine TO.s rfl rfl rfl (StepS.assign rfl) ?_
                        refine TO.code ?_
                        obtain ⟨o158, hw159, hj77⟩ := bind_some hj77
                        refine TC.loop hw159 (fun (x153, x154) => fun a w => Mid 218 B [(0, I a0), (4, .pointer (some ⟨b5, 0, none⟩)), (5, .pointer (some ⟨bq6_7_1, 0, none⟩)), (6, v21), (7, v19), (8, v152), (11, I 0), (13, I x63.2.2.2), (18, I x153), (19, I x154), (30, h1), (31, I (a1.length : Int)), (32, I x35)] (OwnS 114 2 v148 (([(x63.2.2.2, x63.2.1)] : List (Int × Int)).map cTii) :: Bx b65 106 [I x63.1, I x63.2.1, I x63.2.2.1, I x63.2.2.2] :: OwnS 129 4 v21 (y23.map cTiiii) :: OwnS 114 2 v152 (y150.map cTii) :: OwnS 28 1 v27 (y29.map cI) :: OwnS 3 1 v19 (y30.map cI) :: OwnS 3 1 v7 ((y31.set x63.2.1.toNat x63.2.2.2).map cI) :: OwnS 3 1 v10 ((y32.set x63.2.1.toNat x63.2.2.2).map cI) :: OwnS 3 1 v13 ((y33.set x63.2.1.toNat x144).map cI) :: Bx bq6_7_1 45 [v27, I x34, v7, v10, v13] :: Bx b5 45 [.slice none 0 0, I 0, .slice none 0 0, .slice none 0 0, .slice none 0 0] :: L) a w) (fun x157 => fun a w => Mid 218 B [(0, I a0), (4, .pointer (some ⟨b5, 0, none⟩)), (5, .pointer (some ⟨bq6_7_1, 0, none⟩)), (6, v21), (7, v19), (8, v152), (11, I 0), (13, I x63.2.2.2), (18, I x157), (30, h1), (31, I (a1.length : Int)), (32, I x35)] (OwnS 114 2 v148 (([(x63.2.2.2, x63.2.1)] : List (Int × Int)).map cTii) :: Bx b65 106 [I x63.1, I x63.2.1, I x63.2.2.1, I x63.2.2.2] :: OwnS 129 4 v21 (y23.map cTiiii) :: OwnS 114 2 v152 (y150.map cTii) :: OwnS 28 1 v27 (y29.map cI) :: OwnS 3 1 v19 (y30.map cI) :: OwnS 3 1 v7 ((y31.set x63.2.1.toNat x63.2.2.2).map cI) :: OwnS 3 1 v10 ((y32.set x63.2.1.toNat x63.2.2.2).map cI) :: OwnS 3 1 v13 ((y33.set x63.2.1.toNat x144).map cI) :: Bx bq6_7_1 45 [v27, I x34, v7, v10, v13] :: Bx b5 45 [.slice none 0 0, I 0, .slice none 0 0, .slice none 0 0, .slice none 0 0] :: L) a w) (fun (_ : Unit) _ _ => False) ?_ ?_ ?_ ?_
                        · rintro ⟨x153, x154⟩ o158r hb160 a w ⟨he, hs⟩
                          dsimp only [F24_L2] at hb160
                          refine TC.use ?_ he hs
                          refine TC.k ?_
                          refine TC.k ?_
                          refine TC.region ?_
                          refine TO.s rfl rfl rfl (StepS.move rfl) ?_
                          refine TO.s rfl rfl rfl (StepS.move rfl) ?_
                          refine TO.s rfl rfl rfl (StepS.cmp rfl rfl rfl) ?_
                          refine TO.code ?_
                          refine TC.cond rfl (fun hc161 => ?_) (fun hc161 => ?_)
                          · replace hb160 := cond_t hc161 hb160
                            refine TC.skipk ?_
                            refine TC.k ?_
                            refine TC.block ?_
                            refine TC.k ?_
                            refine TC.region ?_
                            refine TO.s rfl rfl rfl (StepS.move rfl) ?_
                            refine TO.s rfl rfl rfl (StepS.lenm rfl (OwnS.rd (Ent.at 3 rfl)) ksliceB_85_114_2_true rfl) ?_
                            refine TO.s rfl rfl rfl (StepS.move rfl) ?_
                            refine TO.code ?_
                            obtain ⟨o165, hw166, hb160⟩ := bind_some hb160
                            refine TC.loop hw166 (fun x162 => fun a w => Mid 218 B [(0, I a0), (4, .pointer (some ⟨b5, 0, none⟩)), (5, .pointer (some ⟨bq6_7_1, 0, none⟩)), (6, v21), (7, v19), (8, v152), (11, I 0), (13, I x63.2.2.2), (18, I x153), (19, I x154), (30, h1), (31, I (a1.length : Int)), (32, I x35), (182, v152), (183, I (y150.length : Int)), (184, I x162)] (OwnS 114 2 v148 (([(x63.2.2.2, x63.2.1)] : List (Int × Int)).map cTii) :: Bx b65 106 [I x63.1, I x63.2.1, I x63.2.2.1, I x63.2.2.2] :: OwnS 129 4 v21 (y23.map cTiiii) :: OwnS 114 2 v152 (y150.map cTii) :: OwnS 28 1 v27 (y29.map cI) :: OwnS 3 1 v19 (y30.map cI) :: OwnS 3 1 v7 ((y31.set x63.2.1.toNat x63.2.2.2).map cI) :: OwnS 3 1 v10 ((y32.set x63.2.1.toNat x63.2.2.2).map cI) :: OwnS 3 1 v13 ((y33.set x63.2.1.toNat x144).map cI) :: Bx bq6_7_1 45 [v27, I x34, v7, v10, v13] :: Bx b5 45 [.slice none 0 0, I 0, .slice none 0 0, .slice none 0 0, .slice none 0 0] :: L) a w) (fun x164 => fun a w => Mid 218 B [(0, I a0), (4, .pointer (some ⟨b5, 0, none⟩)), (5, .pointer (some ⟨bq6_7_1, 0, none⟩)), (6, v21), (7, v19), (8, v152), (11, I 0), (13, I x63.2.2.2), (18, I x164), (19, I x154), (30, h1), (31, I (a1.length : Int)), (32, I x35)] (OwnS 114 2 v148 (([(x63.2.2.2, x63.2.1)] : List (Int × Int)).map cTii) :: Bx b65 106 [I x63.1, I x63.2.1, I x63.2.2.1, I x63.2.2.2] :: OwnS 129 4 v21 (y23.map cTiiii) :: OwnS 114 2 v152 (y150.map cTii) :: OwnS 28 1 v27 (y29.map cI) :: OwnS 3 1 v19 (y30.map cI) :: OwnS 3 1 v7 ((y31.set x63.2.1.toNat x63.2.2.2).map cI) :: OwnS 3 1 v10 ((y32.set x63.2.1.toNat x63.2.2.2).map cI) :: OwnS 3 1 v13 ((y33.set x63.2.1.toNat x144).map cI) :: Bx bq6_7_1 45 [v27, I x34, v7, v10, v13] :: Bx b5 45 [.slice none 0 0, I 0, .slice none 0 0, .slice none 0 0, .slice none 0 0] :: L) a w) (fun (_ : Unit) _ _ => False) ?_ ?_ ?_ ?_
                            · rintro x162 o165r hb167 a w ⟨he, hs⟩
                              dsimp only [F24_L3] at hb167
                              refine TC.use ?_ he hs
                              refine TC.k ?_
                              refine TC.region ?_
                              refine TO.s rfl rfl rfl (StepS.cmp rfl rfl rfl) ?_
                              refine TO.code ?_
                              refine TC.k ?_
                              refine TC.cond rfl (fun hc168 => ?_) (fun hc168 => ?_)
                              · replace hb167 := cond_t hc168 hb167
                                refine TC.skipk ?_
                                refine TC.k ?_
                                refine TC.block ?_
                                refine TC.k ?_
                                refine TC.region ?_
                                obtain ⟨x169, hx170, hb167⟩ := bind_some hb167
                                refine TO.s rfl rfl rfl (StepS.idx rfl rfl (OwnS.rd (Ent.at 3 rfl)) ksliceB_85_114_2_true (idx_spec hx170).1 (idxm_lt hx170)) ?_
                                refine TO.s rfl rfl rfl (StepS.ldE rfl (OwnS.rd (Ent.at 3 rfl)) kaggB_114_2_true rfl (idxm hx170)) ?_
                                refine TO.alloc kinfo_114_bind_zero_some_agg_I_0_I_0 rfl rfl fun b171 => ?_
                                refine TO.stB (us := [I x169.1, I x169.2]) 0 [I x169.1, I x169.2] rfl rfl rfl ksizeB_114_2_true rfl rfl rfl (by simp [Value.oneCell']) rfl ?_
                                refine TO.code ?_
                                refine TC.k ?_
                                refine TC.region ?_
                                refine TO.s rfl rfl rfl (StepS.aidx (j := 0) rfl rfl karrB_114_2_3_1_true ⟨by decide, by decide⟩ rfl) ?_
                                refine TO.s rfl rfl rfl (StepS.ldB rfl (Ent.at 0 rfl) kscalB_3_true rfl) ?_
                                refine TO.s rfl rfl rfl (StepS.move rfl) ?_
                                refine TO.s rfl rfl rfl (StepS.cmp rfl rfl rfl) ?_
                                refine TO.s rfl rfl rfl (StepS.move rfl) ?_
                                refine TO.mid1 5 197 (.bool ((x169.1 == x63.2.2.2) && (x169.2 == x154))) ?_ ?_
                                · refine bcase ((x169.1 == x63.2.2.2)) (fun hb172 => ?_) (fun hb172 => ?_)
                                  · refine TO.sw rfl rfl rfl hb172 rfl rfl (StepS.aidx (j := 1) rfl rfl karrB_114_2_3_1_true ⟨by decide, by decide⟩ rfl) ?_
                                    refine TO.sw rfl rfl rfl hb172 rfl rfl (StepS.ldB rfl (Ent.at 0 rfl) kscalB_3_true rfl) ?_
                                    refine TO.sw rfl rfl rfl hb172 rfl rfl (StepS.move rfl) ?_
                                    refine TO.sw rfl rfl rfl hb172 rfl rfl (StepS.cmp rfl rfl rfl) ?_
                                    refine TO.s rfl rfl rfl (StepS.pickT rfl hb172 rfl) ?_
                                    exact TO.up1 5 0 rfl rfl (by rw [hb172]; rfl) rfl
                                  · refine TO.skip rfl rfl rfl (skipF hb172) rfl rfl ?_
                                    refine TO.skip rfl rfl rfl (skipF hb172) rfl rfl ?_
                                    refine TO.skip rfl rfl rfl (skipF hb172) rfl rfl ?_
                                    refine TO.skip rfl rfl rfl (skipF hb172) rfl rfl ?_
                                    refine TO.s rfl rfl rfl (StepS.pickF rfl hb172 rfl) ?_
                                    exact TO.up1 5 0 rfl rfl (by rw [hb172]; rfl) rfl
                                refine TO.code ?_
                                refine TC.cond rfl (fun hc173 => ?_) (fun hc173 => ?_)
                                · replace hb167 := cond_t hc173 hb167
                                  refine TC.k ?_
                                  refine TC.region ?_
                                  refine TO.s rfl rfl rfl (StepS.move rfl) ?_
                                  refine TO.s rfl rfl rfl (StepS.ari rfl rfl rfl) ?_
                                  refine TO.s rfl rfl rfl (StepS.assign rfl) ?_
                                  refine TO.code ?_
                                  cases hb167
                                  refine TC.exit rfl fun a w e s => ?_
                                  exact ⟨e.sub (lk_of_allIn ⟨rfl, rfl, rfl, rfl, rfl, rfl, rfl, rfl, rfl, rfl, rfl, rfl, rfl, trivial⟩), s.mono fun _ => Sat.dropN 1⟩
                                · replace hb167 := cond_f hc173 hb167
                                  refine TC.skipk ?_
                                  refine TC.region ?_
                                  refine TO.s rfl rfl rfl (StepS.ari rfl rfl rfl) ?_
                                  refine TO.s rfl rfl rfl (StepS.move rfl) ?_
                                  cases hb167
                                  refine TO.nil fun a w e s => ?_
                                  exact ⟨e.sub (lk_of_allIn ⟨rfl, rfl, rfl, rfl, rfl, rfl, rfl, rfl, rfl, rfl, rfl, rfl, rfl, rfl, rfl, rfl, trivial⟩), s.mono fun _ => Sat.dropN 1⟩
                              · replace hb167 := cond_f hc168 hb167
                                cases hb167
                                refine TC.exit rfl fun a w e s => ?_
                                exact ⟨e.sub (lk_of_allIn ⟨rfl, rfl, rfl, rfl, rfl, rfl, rfl, rfl, rfl, rfl, rfl, rfl, rfl, trivial⟩), s⟩
                            · exact fun a w e s => ⟨e.sub (lk_of_allIn ⟨rfl, rfl, rfl, rfl, rfl, rfl, rfl, rfl, rfl, rfl, rfl, rfl, rfl, rfl, rfl, rfl, trivial⟩), s⟩
                            · rintro x164 rfl a w ⟨he, hs⟩
                              dsimp only [Ctl.on] at hb160
                              refine TC.use ?_ he hs
                              refine TC.region ?_
                              refine TO.s rfl rfl rfl (StepS.move rfl) ?_
                              refine TO.s rfl rfl rfl (StepS.ari rfl rfl rfl) ?_
                              refine TO.s rfl rfl rfl (StepS.assign rfl) ?_
                              cases hb160
                              refine TO.nil fun a w e s => ?_
                              exact ⟨e.sub (lk_of_allIn ⟨rfl, rfl, rfl, rfl, rfl, rfl, rfl, rfl, rfl, rfl, rfl, rfl, rfl, trivial⟩), s⟩
                            · rintro r rfl
                              exact fun a w h => h.elim
                          · replace hb160 := cond_f hc161 hb160
                            cases hb160
                            refine TC.exit rfl fun a w e s => ?_
                            exact ⟨e.sub (lk_of_allIn ⟨rfl, rfl, rfl, rfl, rfl, rfl, rfl, rfl, rfl, rfl, rfl, rfl, trivial⟩), s⟩
                        · exact fun a w e s => ⟨e.sub (lk_of_allIn ⟨rfl, rfl, rfl, rfl, rfl, rfl, rfl, rfl, rfl, rfl, rfl, rfl, rfl, trivial⟩), s⟩
                        · rintro x157 rfl a w ⟨he, hs⟩
                          dsimp only [Ctl.on] at hj77
                          refine TC.use ?_ he hs
                          refine TC.k ?_
                          refine TC.region ?_
                          refine TO.s rfl rfl rfl (StepS.move rfl) ?_
                          refine TO.s rfl rfl rfl (StepS.ari rfl rfl rfl) ?_
                          refine TO.s rfl rfl rfl (StepS.move rfl) ?_
                          refine TO.s rfl rfl rfl (StepS.cmp rfl rfl rfl) ?_
                          refine TO.code ?_
                          refine TC.cond rfl (fun hc174 => ?_) (fun hc174 => ?_)
                          · replace hj77 := cond_t hc174 hj77
                            refine TC.region ?_
                            refine TO.s rfl rfl rfl (StepS.move rfl) ?_
                            refine TO.s rfl rfl rfl (StepS.move rfl) ?_
                            obtain ⟨x175, hx176, hj77⟩ := bind_some hj77
                            refine TO.s rfl rfl rfl (StepS.idx rfl rfl (OwnS.rd (Ent.at 5 rfl)) ksliceB_22_3_1_true (idx_spec hx176).1 (idxm_lt hx176)) ?_
                            refine TO.s rfl rfl rfl (StepS.ld0 rfl (OwnS.rd (Ent.at 5 rfl)) kscalB_3_true rfl (idxm hx176) rfl) ?_
                            refine TO.s rfl rfl rfl (StepS.fld rfl kfieldB_45_1_1_true) ?_
                            refine TO.stB (us := [I x175]) 9 [v27, I x175, v7, v10, v13] rfl rfl rfl ksizeB_3_1_true rfl rfl rfl (by simp [Value.oneCell']) rfl ?_
                            cases hj77
                            refine TO.nil fun a w e s => ?_
                            exact ⟨v21, v152, e.sub (lk_of_allIn ⟨rfl, rfl, rfl, rfl, rfl, rfl, rfl, rfl, rfl, rfl, trivial⟩), s.mono fun _ => Sat.dropN 1⟩
                          · replace hj77 := cond_f hc174 hj77
                            cases hj77
                            refine TC.skip fun a w e s => ?_
                            exact ⟨v21, v152, e.sub (lk_of_allIn ⟨rfl, rfl, rfl, rfl, rfl, rfl, rfl, rfl, rfl, rfl, trivial⟩), s.mono fun _ => Sat.dropN 1⟩
                        · rintro r rfl
                          exact fun a w h => h.elim
        · intro a w ⟨v68, v70, he, hs⟩
          refine TC.use ?_ he hs
          refine TC.region ?_
          refine TO.s rfl rfl rfl (StepS.fld rfl kfieldB_45_0_0_true) ?_
          refine TO.s rfl rfl rfl (StepS.ldB rfl (Ent.at 8 rfl) kscalB_24_true rfl) ?_
          refine TO.s rfl rfl rfl (StepS.move rfl) ?_
          refine TO.litS (f := cI) ([x76] : List Int) kelemB_24_28_1_8_true kinfo_28_bind_zero_some_I_0 rfl rfl (fun _ => rfl) rfl rfl (by kernel_rfl) rfl fun v177 => ?_
          obtain ⟨y179, hk180, hb61⟩ := bind_some hb61
          refine TO.app (k := 4) (f := cI) kelemB_24_28_1_8_true (by decide) rfl rfl rfl (OwnS.rd (Ent.at 0 rfl)) hk180 (fun x c hc => by simp [Value.oneCell'] at hc ⊢; first | (obtain rfl := hc; rfl) | (rcases hc with rfl <;> rfl)) rfl rfl fun v181 => ?_
          refine TO.s rfl rfl rfl (StepS.fld rfl kfieldB_45_0_0_true) ?_
          refine TO.pure (fun _ s => Rd.one (OwnS.rd (Ent.at 4 rfl)) s) fun oc182 => ?_
          refine TO.stB (us := [v181]) 9 [v181, I x75, v7, v10, v13] rfl rfl rfl ksizeB_24_1_true oc182.2 rfl rfl (by intro u hu; simp only [List.mem_cons, List.not_mem_nil, or_false] at hu; rcases hu with rfl <;> first | exact oc182.1 | rfl) rfl ?_
          refine TO.code ?_
          refine TC.region ?_
          refine TO.s rfl rfl rfl (StepS.ari rfl rfl rfl) ?_
          refine TO.s rfl rfl rfl (StepS.move rfl) ?_
          cases hb61
          refine TO.nil fun a w e s => ?_
          exact ⟨v68, v70, v181, e.sub (lk_of_allIn ⟨rfl, rfl, rfl, rfl, rfl, rfl, rfl, rfl, rfl, trivial⟩), s.mono fun _ => Sat.dropN 2⟩
      · replace hb61 := cond_f hc62 hb61
        cases hb61
        refine TC.exit rfl fun a w e s => ?_
        exact ⟨v27, e.sub (lk_of_allIn ⟨rfl, rfl, trivial⟩), s.mono fun _ => Sat.dropN 2⟩
    · exact fun a w e s => ⟨.slice none 0 0, .slice none 0 0, .slice none 0 0, e.sub (lk_of_allIn ⟨rfl, rfl, rfl, rfl, rfl, rfl, rfl, rfl, rfl, trivial⟩), s.mono fun _ s => (by replace s := Sat.front 5 rfl s; replace s := Sat.front 5 rfl s; replace s := Sat.front 5 rfl s; replace s := Sat.front 5 rfl s; replace s := Sat.front 5 rfl s; replace s := Sat.front 5 rfl s; replace s := Sat.nilS (e := 28) (sz := 1) (f := cI) s; replace s := Sat.nilS (e := 114) (sz := 2) (f := cTii) s; replace s := Sat.nilS (e := 129) (sz := 4) (f := cTiiii) s; exact s)⟩
    · rintro ⟨y53, y54, y55, y56, y57, x58⟩ rfl a w ⟨v51, he, hs⟩
      dsimp only [Ctl.on] at hm
      refine TC.use ?_ he hs
      refine TC.k ?_
      refine TC.region ?_
      refine TO.s rfl rfl rfl (StepS.ldBA rfl (Ent.at 5 rfl) kaggB_45_5_true rfl rfl) ?_
      refine TO.pure (fun _ s => Rd.one (OwnS.rd (Ent.at 0 rfl)) s) fun oc183 => ?_
      refine TO.pure (fun _ s => Rd.one (OwnS.rd (Ent.at 2 rfl)) s) fun oc184 => ?_
      refine TO.pure (fun _ s => Rd.one (OwnS.rd (Ent.at 3 rfl)) s) fun oc185 => ?_
      refine TO.pure (fun _ s => Rd.one (OwnS.rd (Ent.at 4 rfl)) s) fun oc186 => ?_
      refine TO.stB (us := [v51, I x58, v7, v10, v13]) 6 [v51, I x58, v7, v10, v13] rfl rfl rfl ksizeB_45_5_true rfl rfl rfl (by intro u hu; simp only [List.mem_cons, List.not_mem_nil, or_false] at hu; rcases hu with rfl | rfl | rfl | rfl | rfl <;> first | exact oc183.1 | exact oc184.1 | exact oc185.1 | exact oc186.1 | rfl) rfl ?_
      refine TO.code ?_
      cases hm
      refine TC.ret fun a w e s => ?_
      refine FRet.cell1 (P := Try.prog) (fn := Try.f24) e s rfl rfl (Ent.at 6 rfl) kaggB_45_5_true rfl ?_
      refine ⟨_, _, rfl, ⟨(v51), (v7), (v10), (v13), rfl, rfl⟩, ?_⟩
      refine s.mono fun _ s => ?_
      replace s := Sat.front 4 rfl s
      replace s := Sat.front 4 rfl s
      replace s := Sat.front 4 rfl s
      replace s := Sat.front 3 rfl s
      replace s := Sat.erase 4 s
      replace s := Sat.erase 4 s
      replace s := Sat.erase 4 s
      exact s
    · rintro r rfl
      exact fun a w h => h.elim
end Go.Proofs.Ythfkdepcnhhepaa
