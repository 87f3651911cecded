/-
  The walks: each Go function returns what its model says. Written by a program (gen.py).
-/
import Derived.Test.YtgofkfhkolkfmaaProg
import Derived.KernelRfl
import Derived.Test.YtgofkfhkolkfmaaAW
import Derived.Test.YtgofkfhkolkfmaaBW
import Derived.Test.YtgofkfhkolkfmaaCW
import Derived.Test.YtgofkfhkolkfmaaSK
import Derived.Test.YtgofkfhkolkfmaaDM
namespace Go.Proofs.Ytgofkfhkolkfmaa
open Go Go.Bk
set_option linter.unusedVariables false
set_option linter.unnecessarySimpa false
theorem kinfo_34_bind_zero_some_slice_none_0_0 : (Try.prog.info? 34).bind (·.zero) = some (.slice none 0 0) := by kernel_rfl
theorem kcallB_9_true : callB Try.prog 9 = true := by kernel_rfl
theorem kcallB_10_true : callB Try.prog 10 = true := by kernel_rfl
theorem kcallB_11_true : callB Try.prog 11 = true := by kernel_rfl
theorem kcallB_12_true : callB Try.prog 12 = true := by kernel_rfl

set_option maxRecDepth 100000 in
theorem C4 {B : World} {L : List HP} {a0 : Int} {a1 : List (Int × Int × Int × Int)} {zp : List (List Int)} {h1 : Value} {z0 zs : List ZH} {r0 : (List Int) × List (List (Int × Nat))} {r1 : Int} {s0 : List (List Int)} (e1 : Ent L (Rd 4 h1 (a1.map cTiiii))) (hm : F4 a0 a1 zp = some (r0, r1, s0)) {w : World} (st : St B (PZ 3 1 cI z0 zs zp :: L) w) : Calls Try.prog 4 #[I a0, h1] w (fun e w' => ∃ v M, e = .returned v ∧ (∃ (zs : List ZH) (qv1 : Value) (qv2 : Value) (qhs3 : List Value), v = .tuple #[.agg #[qv1, qv2], I r1] ∧ M = (PZ 3 1 cI z0 zs s0 :: OwnS 27 1 qv1 (r0.1.map cI) :: SS 34 44 2 (cZ44 zs) qv2 qhs3 (r0.2) :: L)) ∧ St B M w') := by
  refine calls_of (N := 83) (L := (PZ 3 1 cI z0 zs zp :: L)) (args := [I a0, h1]) Try.func4 rfl rfl rfl ?_ st
  dsimp only [F4] at hm
  refine TC.k ?_
  refine TC.region ?_
  refine TO.alloc kinfo_26_bind_zero_some_agg_slice_none_0_0_slice_none_0_0 rfl rfl fun b3 => ?_
  refine TO.s rfl rfl rfl (StepS.assign rfl) ?_
  refine TO.code ?_
  refine TC.k ?_
  refine TC.k ?_
  refine TC.region ?_
  refine TO.s rfl rfl rfl (StepS.move rfl) ?_
  refine TO.s rfl rfl rfl (StepS.cmp rfl rfl rfl) ?_
  refine TO.s rfl rfl rfl (StepS.move rfl) ?_
  refine TO.mid1 3 20 (.bool ((decide (a0 < 1)) || (decide (a0 > 6)))) ?_ ?_
  · refine bcase ((decide (a0 < 1))) (fun hb4 => ?_) (fun hb4 => ?_)
    · refine TO.skip rfl rfl rfl (skipT hb4) rfl rfl ?_
      refine TO.skip rfl rfl rfl (skipT hb4) rfl rfl ?_
      refine TO.s rfl rfl rfl (StepS.pickT rfl hb4 rfl) ?_
      exact TO.up1 3 0 rfl rfl (by rw [hb4]; rfl) rfl
    · refine TO.sw rfl rfl rfl hb4 rfl rfl (StepS.move rfl) ?_
      refine TO.sw rfl rfl rfl hb4 rfl rfl (StepS.cmp rfl rfl rfl) ?_
      refine TO.s rfl rfl rfl (StepS.pickF rfl hb4 rfl) ?_
      exact TO.up1 3 0 rfl rfl (by rw [hb4]; rfl) rfl
  refine TO.s rfl rfl rfl (StepS.move rfl) ?_
  refine TO.mid1 4 25 (.bool (((decide (a0 < 1)) || (decide (a0 > 6))) || (decide ((a1.length : Int) > 60)))) ?_ ?_
  · refine bcase (((decide (a0 < 1)) || (decide (a0 > 6)))) (fun hb5 => ?_) (fun hb5 => ?_)
    · refine TO.skip rfl rfl rfl (skipT hb5) rfl rfl ?_
      refine TO.skip rfl rfl rfl (skipT hb5) rfl rfl ?_
      refine TO.skip rfl rfl rfl (skipT hb5) rfl rfl ?_
      refine TO.s rfl rfl rfl (StepS.pickT rfl hb5 rfl) ?_
      exact TO.up1 4 0 rfl rfl (by rw [hb5]; rfl) rfl
    · refine TO.sw rfl rfl rfl hb5 rfl rfl (StepS.move rfl) ?_
      refine TO.sw rfl rfl rfl hb5 rfl rfl (StepS.lenm rfl e1.tl.tl ksliceB_22_41_4_true rfl) ?_
      refine TO.sw rfl rfl rfl hb5 rfl rfl (StepS.cmp rfl rfl rfl) ?_
      refine TO.s rfl rfl rfl (StepS.pickF rfl hb5 rfl) ?_
      exact TO.up1 4 0 rfl rfl (by rw [hb5]; rfl) rfl
  refine TO.code ?_
  refine TC.cond rfl (fun hc6 => ?_) (fun hc6 => ?_)
  · replace hm := cond_t hc6 hm
    refine TC.k ?_
    refine TC.region ?_
    refine TO.s rfl rfl rfl (StepS.build (cs := [.slice none 0 0, .slice none 0 0]) rfl (by kernel_rfl)) ?_
    refine TO.stB (us := [.slice none 0 0, .slice none 0 0]) 0 [.slice none 0 0, .slice none 0 0] rfl rfl rfl ksizeB_26_2_true rfl rfl rfl (by simp [Value.oneCell']) rfl ?_
    refine TO.s rfl rfl rfl (StepS.assign rfl) ?_
    refine TO.code ?_
    cases hm
    refine TC.ret fun a w e s => ?_
    refine FRet.cell2 (P := Try.prog) (fn := Try.f4) e s rfl rfl rfl (Ent.at 0 rfl) kaggB_26_2_true rfl ?_
    refine ⟨_, _, rfl, ⟨zs, (.slice none 0 0), (.slice none 0 0), ([]), rfl, rfl⟩, ?_⟩
    refine s.mono fun _ s => ?_
    replace s := Sat.nilSS (e := 34) (ee := 44) (sz := 2) (f := (cZ44 zs)) s
    replace s := Sat.nilS (e := 27) (sz := 1) (f := cI) s
    replace s := Sat.front 3 rfl s
    replace s := Sat.erase 3 s
    exact s
  · replace hm := cond_f hc6 hm
    refine TC.skipk ?_
    refine TC.k ?_
    obtain ⟨⟨y11, y14⟩, hj15, hm⟩ := bind_some hm
    first | refine TC.cutM (fun a w => ∃ v8 : Value, ∃ hs9 : List Value, ∃ v12 : Value, ∃ bq7_5_1 : Nat, Mid 83 B [(1, h1), (4, .pointer (some ⟨b3, 0, none⟩)), (6, .pointer (some ⟨bq7_5_1, 0, none⟩))] (SS 34 44 2 (cZ44 zs) v8 hs9 (y11) :: OwnS 3 1 v12 (y14.map cI) :: Bx bq7_5_1 39 [v8, v12] :: Bx b3 26 [.slice none 0 0, .slice none 0 0] :: PZ 3 1 cI z0 zs zp :: L) a w) ?_ ?_ | refine TC.cutX (fun a w => ∃ v8 : Value, ∃ hs9 : List Value, ∃ v12 : Value, ∃ bq7_5_1 : Nat, Mid 83 B [(1, h1), (4, .pointer (some ⟨b3, 0, none⟩)), (6, .pointer (some ⟨bq7_5_1, 0, none⟩))] (SS 34 44 2 (cZ44 zs) v8 hs9 (y11) :: OwnS 3 1 v12 (y14.map cI) :: Bx bq7_5_1 39 [v8, v12] :: Bx b3 26 [.slice none 0 0, .slice none 0 0] :: PZ 3 1 cI z0 zs zp :: L) a w) ?_ ?_
    · obtain ⟨yq7_1_1, hkq7_1_2, hj15⟩ := bind_some hj15
      obtain ⟨yq7_3_1, hkq7_3_2, hj15⟩ := bind_some hj15
      refine TC.region_any (Bx b3 26 [.slice none 0 0, .slice none 0 0] :: PZ 3 1 cI z0 zs zp :: L) 7 7 kfollows_mixedOrders_true rfl ?_
      refine TA.takeW 0 rfl rfl rfl rfl (StepS.move rfl) (by kernel_rfl) (by kernel_rfl) (by kernel_rfl) rfl (.inr (fun _ s => s)) ?_
      refine TA.takeW 2 rfl rfl rfl rfl (StepS.move rfl) (by kernel_rfl) (by kernel_rfl) (by kernel_rfl) rfl (.inr (fun _ s => s)) ?_
      refine TA.all2 (i := 1) (j := 3) (by kernel_rfl) ?_ ?_
      · refine TB.of rfl ?_
        refine TO.mkSSg (ee := 44) (sz := 2) (f := (cZ44 zs)) kelemB_24_34_1_24_true kinfo_34_bind_zero_some_slice_none_0_0 rfl rfl hkq7_1_2 rfl fun vq7_1_3 hsq7_1_4 => ?_
        refine TA.back (.inr (fun _ s => Sat.by [2, 2] 2 1 (by kernel_rfl) s)) ?_
        refine TA.asL (L' := (SS 34 44 2 (cZ44 zs) vq7_1_3 hsq7_1_4 (yq7_1_1) :: Bx b3 26 [.slice none 0 0, .slice none 0 0] :: PZ 3 1 cI z0 zs zp :: L)) (listed' := #[true, true, true, false, false, false, false]) (by kernel_rfl) (by kernel_rfl) ?_
        refine TA.all1 (i := 3) (by kernel_rfl) ?_
        refine TB.of rfl ?_
        refine TO.mkS (f := cI) (za := 0) kelemB_37_3_1_8_true kinfo_3_bind_zero_some_I_0 rfl (by decide) rfl rfl hkq7_3_2 rfl fun vq7_3_3 => ?_
        refine TA.back (.inr (fun _ s => Sat.by [3, 3] 2 2 (by kernel_rfl) s)) ?_
        refine TA.asL (L' := (OwnS 3 1 vq7_3_3 (yq7_3_1.map cI) :: SS 34 44 2 (cZ44 zs) vq7_1_3 hsq7_1_4 (yq7_1_1) :: Bx b3 26 [.slice none 0 0, .slice none 0 0] :: PZ 3 1 cI z0 zs zp :: L)) (listed' := #[true, true, true, true, false, false, false]) (by kernel_rfl) (by kernel_rfl) ?_
        refine TA.all1 (i := 4) (by kernel_rfl) ?_
        refine TB.of rfl ?_
        refine TO.pure (fun _ s => Rd.one (RR.top (SS.rr (Ent.at 1 rfl))) s) fun ocq7_4_1 => ?_
        refine TO.pure (fun _ s => Rd.one (OwnS.rd (Ent.at 0 rfl)) s) fun ocq7_4_2 => ?_
        refine TO.s rfl rfl rfl (StepS.buildS (us := [(0, .agg #[vq7_1_3]), (1, .agg #[vq7_3_3])]) (cs := [vq7_1_3, vq7_3_3]) rfl (by simp only [List.map_cons, List.map_nil, ocq7_4_1.2, ocq7_4_2.2] <;> rfl) (by kernel_rfl)) ?_
        refine TA.back (.inr (fun _ s => Sat.by [3, 3] 2 2 (by kernel_rfl) s)) ?_
        refine TA.all1 (i := 5) (by kernel_rfl) ?_
        refine TB.of rfl ?_
        refine TO.box (cs := [vq7_1_3, vq7_3_3]) rfl rfl rfl fun bq7_5_1 => ?_
        refine TA.back (.inr (fun _ s => Sat.by [4, 4] 2 3 (by kernel_rfl) s)) ?_
        refine TA.asL (L' := (Bx bq7_5_1 39 [vq7_1_3, vq7_3_3] :: OwnS 3 1 vq7_3_3 (yq7_3_1.map cI) :: SS 34 44 2 (cZ44 zs) vq7_1_3 hsq7_1_4 (yq7_1_1) :: Bx b3 26 [.slice none 0 0, .slice none 0 0] :: PZ 3 1 cI z0 zs zp :: L)) (listed' := #[true, true, true, true, true, true, false]) (by kernel_rfl) (by kernel_rfl) ?_
        refine TA.takeW 6 rfl rfl rfl rfl (StepS.assign rfl) (by kernel_rfl) (by kernel_rfl) (by kernel_rfl) rfl (.inr (fun _ s => Sat.by [4, 4] 2 3 (by kernel_rfl) s)) ?_
        cases hj15
        refine TA.nil (by kernel_rfl) fun a w e s => ?_
        exact ⟨vq7_1_3, hsq7_1_4, vq7_3_3, bq7_5_1, e.sub (lk_of_allIn ⟨rfl, rfl, rfl, trivial⟩), s.mono fun _ s => (by exact Sat.by [4, 4, 2, 3, 4] 5 0 (by kernel_rfl) s)⟩
      · refine TB.of rfl ?_
        refine TO.mkS (f := cI) (za := 0) kelemB_37_3_1_8_true kinfo_3_bind_zero_some_I_0 rfl (by decide) rfl rfl hkq7_3_2 rfl fun vq7_3_3 => ?_
        refine TA.back (.inr (fun _ s => Sat.by [2, 2] 2 1 (by kernel_rfl) s)) ?_
        refine TA.asL (L' := (OwnS 3 1 vq7_3_3 (yq7_3_1.map cI) :: Bx b3 26 [.slice none 0 0, .slice none 0 0] :: PZ 3 1 cI z0 zs zp :: L)) (listed' := #[true, false, true, true, false, false, false]) (by kernel_rfl) (by kernel_rfl) ?_
        refine TA.all1 (i := 1) (by kernel_rfl) ?_
        refine TB.of rfl ?_
        refine TO.mkSSg (ee := 44) (sz := 2) (f := (cZ44 zs)) kelemB_24_34_1_24_true kinfo_34_bind_zero_some_slice_none_0_0 rfl rfl hkq7_1_2 rfl fun vq7_1_3 hsq7_1_4 => ?_
        refine TA.back (.inr (fun _ s => Sat.by [3, 3] 2 2 (by kernel_rfl) s)) ?_
        refine TA.asL (L' := (SS 34 44 2 (cZ44 zs) vq7_1_3 hsq7_1_4 (yq7_1_1) :: OwnS 3 1 vq7_3_3 (yq7_3_1.map cI) :: Bx b3 26 [.slice none 0 0, .slice none 0 0] :: PZ 3 1 cI z0 zs zp :: L)) (listed' := #[true, true, true, true, false, false, false]) (by kernel_rfl) (by kernel_rfl) ?_
        refine TA.all1 (i := 4) (by kernel_rfl) ?_
        refine TB.of rfl ?_
        refine TO.pure (fun _ s => Rd.one (RR.top (SS.rr (Ent.at 0 rfl))) s) fun ocq7_4_1 => ?_
        refine TO.pure (fun _ s => Rd.one (OwnS.rd (Ent.at 1 rfl)) s) fun ocq7_4_2 => ?_
        refine TO.s rfl rfl rfl (StepS.buildS (us := [(0, .agg #[vq7_1_3]), (1, .agg #[vq7_3_3])]) (cs := [vq7_1_3, vq7_3_3]) rfl (by simp only [List.map_cons, List.map_nil, ocq7_4_1.2, ocq7_4_2.2] <;> rfl) (by kernel_rfl)) ?_
        refine TA.back (.inr (fun _ s => Sat.by [3, 3] 2 2 (by kernel_rfl) s)) ?_
        refine TA.all1 (i := 5) (by kernel_rfl) ?_
        refine TB.of rfl ?_
        refine TO.box (cs := [vq7_1_3, vq7_3_3]) rfl rfl rfl fun bq7_5_1 => ?_
        refine TA.back (.inr (fun _ s => Sat.by [4, 4] 2 3 (by kernel_rfl) s)) ?_
        refine TA.asL (L' := (Bx bq7_5_1 39 [vq7_1_3, vq7_3_3] :: SS 34 44 2 (cZ44 zs) vq7_1_3 hsq7_1_4 (yq7_1_1) :: OwnS 3 1 vq7_3_3 (yq7_3_1.map cI) :: Bx b3 26 [.slice none 0 0, .slice none 0 0] :: PZ 3 1 cI z0 zs zp :: L)) (listed' := #[true, true, true, true, true, true, false]) (by kernel_rfl) (by kernel_rfl) ?_
        refine TA.takeW 6 rfl rfl rfl rfl (StepS.assign rfl) (by kernel_rfl) (by kernel_rfl) (by kernel_rfl) rfl (.inr (fun _ s => Sat.by [4, 4] 2 3 (by kernel_rfl) s)) ?_
        cases hj15
        refine TA.nil (by kernel_rfl) fun a w e s => ?_
        exact ⟨vq7_1_3, hsq7_1_4, vq7_3_3, bq7_5_1, e.sub (lk_of_allIn ⟨rfl, rfl, rfl, trivial⟩), s.mono fun _ s => (by exact Sat.by [4, 4, 2, 4, 4] 5 0 (by kernel_rfl) s)⟩
    · intro a w ⟨v8, hs9, v12, bq7_5_1, he, hs⟩
      refine TC.use ?_ he hs
      refine TC.k ?_
      refine TC.region ?_
      refine TO.alloc kinfo_26_bind_zero_some_agg_slice_none_0_0_slice_none_0_0 rfl rfl fun b16 => ?_
      refine TO.code ?_
      refine TC.k ?_
      refine TC.k ?_
      refine TC.region ?_
      refine TO.s rfl rfl rfl (StepS.move rfl) ?_
      refine TO.s rfl rfl rfl (StepS.lenm rfl e1.tl.tl.tl.tl.tl.tl ksliceB_22_41_4_true rfl) ?_
      refine TO.s rfl rfl rfl (StepS.move rfl) ?_
      refine TO.code ?_
      obtain ⟨o40, hw41, hm⟩ := bind_some hm
      refine TC.loop hw41 (fun (y19, y20, y22, y23, x24) => fun a w => ∃ v17 : Value, ∃ hs21 : List Value, ∃ zs : List ZH, Mid 83 B [(4, .pointer (some ⟨b3, 0, none⟩)), (6, .pointer (some ⟨bq7_5_1, 0, none⟩)), (7, .pointer (some ⟨b16, 0, none⟩)), (33, h1), (34, I (a1.length : Int)), (35, I x24)] (OwnS 27 1 v17 (y19.map cI) :: Bx b16 26 [v17, .slice none 0 0] :: SS 34 44 2 (cZ44 zs) v8 hs21 (y20) :: OwnS 3 1 v12 (y22.map cI) :: Bx bq7_5_1 39 [v8, v12] :: Bx b3 26 [.slice none 0 0, .slice none 0 0] :: PZ 3 1 cI z0 zs y23 :: L) a w) (fun (y35, y36, y38, y39) => fun a w => ∃ v33 : Value, ∃ hs37 : List Value, ∃ zs : List ZH, Mid 83 B [(4, .pointer (some ⟨b3, 0, none⟩)), (6, .pointer (some ⟨bq7_5_1, 0, none⟩)), (7, .pointer (some ⟨b16, 0, none⟩))] (OwnS 27 1 v33 (y35.map cI) :: Bx b16 26 [v33, .slice none 0 0] :: SS 34 44 2 (cZ44 zs) v8 hs37 (y36) :: OwnS 3 1 v12 (y38.map cI) :: Bx bq7_5_1 39 [v8, v12] :: Bx b3 26 [.slice none 0 0, .slice none 0 0] :: PZ 3 1 cI z0 zs y39 :: L) a w) (fun (_ : Unit) _ _ => False) ?_ ?_ ?_ ?_
      · rintro ⟨y19, y20, y22, y23, x24⟩ o40r hb42 a w ⟨v17, hs21, zs, he, hs⟩
        dsimp only [F4_L0] at hb42
        refine TC.use ?_ he hs
        refine TC.k ?_
        refine TC.region ?_
        refine TO.s rfl rfl rfl (StepS.cmp rfl rfl rfl) ?_
        refine TO.code ?_
        refine TC.k ?_
        refine TC.cond rfl (fun hc43 => ?_) (fun hc43 => ?_)
        · replace hb42 := cond_t hc43 hb42
          refine TC.skipk ?_
          refine TC.k ?_
          refine TC.block ?_
          refine TC.k ?_
          refine TC.region ?_
          obtain ⟨x44, hx45, hb42⟩ := bind_some hb42
          refine TO.s rfl rfl rfl (StepS.idx rfl rfl e1.tl.tl.tl.tl.tl.tl.tl ksliceB_22_41_4_true (idx_spec hx45).1 (idxm_lt hx45)) ?_
          refine TO.s rfl rfl rfl (StepS.ldE rfl e1.tl.tl.tl.tl.tl.tl.tl kaggB_41_4_true rfl (idxm hx45)) ?_
          refine TO.alloc kinfo_41_bind_zero_some_agg_I_0_I_0_I_0_I_0 rfl rfl fun b46 => ?_
          refine TO.stB (us := [I x44.1, I x44.2.1, I x44.2.2.1, I x44.2.2.2]) 0 [I x44.1, I x44.2.1, I x44.2.2.1, I x44.2.2.2] rfl rfl rfl ksizeB_41_4_true rfl rfl rfl (by simp [Value.oneCell']) rfl ?_
          refine TO.code ?_
          refine TC.region_any (Bx b46 41 [I x44.1, I x44.2.1, I x44.2.2.1, I x44.2.2.2] :: Bx b16 26 [v17, .slice none 0 0] :: Bx bq7_5_1 39 [v8, v12] :: Bx b3 26 [.slice none 0 0, .slice none 0 0] :: L) 8 9 kfollows_mixedOrders_true rfl ?_
          refine TA.takeW 0 rfl rfl rfl rfl (StepS.fld rfl kfieldB_26_0_0_true) (by kernel_rfl) (by kernel_rfl) (by kernel_rfl) rfl (.inr (fun _ s => Sat.by [6, 6, 4, 3] 4 4 (by kernel_rfl) s)) ?_
          refine TA.take 1 rfl rfl rfl rfl (StepS.ldB rfl (Ent.at 1 rfl) kscalB_23_true rfl) (by kernel_rfl) (by kernel_rfl) (by kernel_rfl) (by kernel_rfl) (by kernel_rfl) (fun _ s => Sat.by [6, 6, 4, 3] 4 4 (by kernel_rfl) s) ?_
          refine TA.takeW 2 rfl rfl rfl rfl (StepS.move rfl) (by kernel_rfl) (by kernel_rfl) (by kernel_rfl) rfl (.inr (fun _ s => Sat.by [6, 6, 4, 3] 4 4 (by kernel_rfl) s)) ?_
          refine TA.take 3 rfl rfl rfl rfl (StepS.ldBA rfl (Ent.at 0 rfl) kaggB_41_4_true rfl rfl) (by kernel_rfl) (by kernel_rfl) (by kernel_rfl) (by kernel_rfl) (by kernel_rfl) (fun _ s => Sat.by [6, 6, 4, 3] 4 4 (by kernel_rfl) s) ?_
          refine TA.all1 (i := 4) (by kernel_rfl) ?_
          refine TB.of rfl ?_
          refine TO.ghost (fun _ s => Sat.front 7 rfl s) ?_
          refine TO.ghost (fun _ s => Sat.front 5 rfl s) ?_
          refine TO.ghost (fun _ s => Sat.front 5 rfl s) ?_
          refine TO.ghost (fun _ s => Sat.front 6 rfl s) ?_
          obtain ⟨⟨rq47_4_1, rq47_4_2, rq47_4_3⟩, hcq47_4_4, hb42⟩ := bind_some hb42
          refine TO.callO kcallB_9_true rfl rfl rfl (fun _ st => C9 (a0 := (y20, y22)) (zs := zs)  hcq47_4_4 st) ?_
          rintro _ _ ⟨hsq47_4_5, zs, rfl, rfl⟩
          refine TA.back (.inr (fun _ s => Sat.by [7, 1, 7, 6] 4 4 (by kernel_rfl) s)) ?_
          refine TA.asL (L' := (Bx bq7_5_1 39 [v8, v12] :: SS 34 44 2 (cZ44 zs) v8 hsq47_4_5 (rq47_4_2.1) :: OwnS 3 1 v12 (rq47_4_2.2.map cI) :: PZ 3 1 cI z0 zs rq47_4_3 :: Bx b46 41 [I x44.1, I x44.2.1, I x44.2.2.1, I x44.2.2.2] :: OwnS 27 1 v17 (y19.map cI) :: Bx b16 26 [v17, .slice none 0 0] :: Bx b3 26 [.slice none 0 0, .slice none 0 0] :: L)) (listed' := #[true, true, true, true, true, false, false, false, false]) (by kernel_rfl) (by kernel_rfl) ?_
          refine TA.all1 (i := 5) (by kernel_rfl) ?_
          refine TB.of rfl ?_
          refine TO.litS (f := cI) ([rq47_4_1] : List Int) kelemB_23_27_1_8_true kinfo_27_bind_zero_some_I_0 rfl rfl (fun _ => rfl) rfl rfl (by kernel_rfl) rfl fun vq47_5_1 => ?_
          refine TA.back (.inr (fun _ s => Sat.by [8, 2, 8, 7] 4 5 (by kernel_rfl) s)) ?_
          refine TA.asL (L' := (OwnS 27 1 vq47_5_1 (([rq47_4_1] : List Int).map cI) :: Bx bq7_5_1 39 [v8, v12] :: SS 34 44 2 (cZ44 zs) v8 hsq47_4_5 (rq47_4_2.1) :: OwnS 3 1 v12 (rq47_4_2.2.map cI) :: PZ 3 1 cI z0 zs rq47_4_3 :: Bx b46 41 [I x44.1, I x44.2.1, I x44.2.2.1, I x44.2.2.2] :: OwnS 27 1 v17 (y19.map cI) :: Bx b16 26 [v17, .slice none 0 0] :: Bx b3 26 [.slice none 0 0, .slice none 0 0] :: L)) (listed' := #[true, true, true, true, true, true, false, false, false]) (by kernel_rfl) (by kernel_rfl) ?_
          refine TA.all1 (i := 6) (by kernel_rfl) ?_
          refine TB.of rfl ?_
          obtain ⟨yq47_6_1, hkq47_6_2, hb42⟩ := bind_some hb42
          refine TO.app (k := 6) (f := cI) kelemB_23_27_1_8_true (by decide) rfl rfl rfl (OwnS.rd (Ent.at 0 rfl)) hkq47_6_2 (fun x c hc => by simp [Value.oneCell'] at hc ⊢; first | (obtain rfl := hc; rfl) | (rcases hc with rfl <;> rfl)) rfl rfl fun vq47_6_3 => ?_
          refine TA.back (.inr (fun _ s => Sat.by [8, 2, 8, 7] 4 5 (by kernel_rfl) s)) ?_
          refine TA.asL (L' := (OwnS 27 1 vq47_5_1 (([rq47_4_1] : List Int).map cI) :: Bx bq7_5_1 39 [v8, v12] :: SS 34 44 2 (cZ44 zs) v8 hsq47_4_5 (rq47_4_2.1) :: OwnS 3 1 v12 (rq47_4_2.2.map cI) :: PZ 3 1 cI z0 zs rq47_4_3 :: Bx b46 41 [I x44.1, I x44.2.1, I x44.2.2.1, I x44.2.2.2] :: OwnS 27 1 vq47_6_3 (yq47_6_1.map cI) :: Bx b16 26 [v17, .slice none 0 0] :: Bx b3 26 [.slice none 0 0, .slice none 0 0] :: L)) (listed' := #[true, true, true, true, true, true, true, false, false]) (by kernel_rfl) (by kernel_rfl) ?_
          refine TA.takeW 7 rfl rfl rfl rfl (StepS.fld rfl kfieldB_26_0_0_true) (by kernel_rfl) (by kernel_rfl) (by kernel_rfl) rfl (.inr (fun _ s => Sat.by [8, 2, 8, 7] 4 5 (by kernel_rfl) s)) ?_
          refine TA.all1 (i := 8) (by kernel_rfl) ?_
          refine TB.of rfl ?_
          refine TO.pure (fun _ s => Rd.one (OwnS.rd (Ent.at 6 rfl)) s) fun ocq47_8_1 => ?_
          refine TO.stB (us := [vq47_6_3]) 7 [vq47_6_3, .slice none 0 0] rfl rfl rfl ksizeB_23_1_true ocq47_8_1.2 rfl rfl (by intro u hu; simp only [List.mem_cons, List.not_mem_nil, or_false] at hu; rcases hu with rfl <;> first | exact ocq47_8_1.1 | rfl) rfl ?_
          refine TA.back (.inl (by kernel_rfl)) ?_
          refine TA.asL (L' := (OwnS 27 1 vq47_5_1 (([rq47_4_1] : List Int).map cI) :: Bx bq7_5_1 39 [v8, v12] :: SS 34 44 2 (cZ44 zs) v8 hsq47_4_5 (rq47_4_2.1) :: OwnS 3 1 v12 (rq47_4_2.2.map cI) :: PZ 3 1 cI z0 zs rq47_4_3 :: Bx b46 41 [I x44.1, I x44.2.1, I x44.2.2.1, I x44.2.2.2] :: OwnS 27 1 vq47_6_3 (yq47_6_1.map cI) :: Bx b16 26 [vq47_6_3, .slice none 0 0] :: Bx b3 26 [.slice none 0 0, .slice none 0 0] :: L)) (listed' := #[true, true, true, true, true, true, true, true, true]) (by kernel_rfl) (by kernel_rfl) ?_
          refine TA.code (by kernel_rfl) ?_
          refine TC.region ?_
          refine TO.s rfl rfl rfl (StepS.ari rfl rfl rfl) ?_
          refine TO.s rfl rfl rfl (StepS.move rfl) ?_
          cases hb42
          refine TO.nil fun a w e s => ?_
          exact ⟨vq47_6_3, hsq47_4_5, zs, e.sub (lk_of_allIn ⟨rfl, rfl, rfl, rfl, rfl, rfl, trivial⟩), s.mono fun _ s => (by exact Sat.by [4, 8, 3, 5, 5, 8, 8] 7 2 (by kernel_rfl) s)⟩
        · replace hb42 := cond_f hc43 hb42
          cases hb42
          refine TC.exit rfl fun a w e s => ?_
          exact ⟨v17, hs21, zs, e.sub (lk_of_allIn ⟨rfl, rfl, rfl, trivial⟩), s⟩
      · exact fun a w e s => ⟨.slice none 0 0, hs9, zs, e.sub (lk_of_allIn ⟨rfl, rfl, rfl, rfl, rfl, rfl, trivial⟩), s.mono fun _ s => (by replace s := Sat.nilS (e := 27) (sz := 1) (f := cI) s; exact Sat.by [6, 6, 6, 6, 6, 6, 6] 7 0 (by kernel_rfl) s)⟩
      · rintro ⟨y35, y36, y38, y39⟩ rfl a w ⟨v33, hs37, zs, he, hs⟩
        dsimp only [Ctl.on] at hm
        refine TC.use ?_ he hs
        refine TC.k ?_
        refine TC.k ?_
        refine TC.region ?_
        refine TO.s rfl rfl rfl (StepS.move rfl) ?_
        refine TO.s rfl rfl rfl (StepS.nilc rfl) ?_
        refine TO.s rfl rfl rfl (StepS.fld rfl kfieldB_39_0_0_true) ?_
        refine TO.s rfl rfl rfl (StepS.ldB rfl (Ent.at 4 rfl) kscalB_24_true rfl) ?_
        refine TO.s rfl rfl rfl (StepS.lenRR rfl (SS.rr (Ent.at 2 rfl)) ksliceB_24_34_1_true rfl) ?_
        refine TO.s rfl rfl rfl (StepS.move rfl) ?_
        refine TO.code ?_
        obtain ⟨o65, hw66, hm⟩ := bind_some hm
        refine TC.loop hw66 (fun (y51, y52, x53) => fun a w => ∃ v48 : Value, ∃ hs49 : List Value, ∃ zs : List ZH, Mid 83 B [(4, .pointer (some ⟨b3, 0, none⟩)), (7, .pointer (some ⟨b16, 0, none⟩)), (51, v8), (52, I (y36.length : Int)), (53, I x53)] (SS 34 44 2 (cZ44 zs) v48 hs49 (y51) :: OwnS 27 1 v33 (y35.map cI) :: Bx b16 26 [v33, v48] :: SS 34 44 2 (cZ44 zs) v8 hs37 (y36) :: OwnS 3 1 v12 (y38.map cI) :: Bx bq7_5_1 39 [v8, v12] :: Bx b3 26 [.slice none 0 0, .slice none 0 0] :: PZ 3 1 cI z0 zs y52 :: L) a w) (fun (y63, y64) => fun a w => ∃ v60 : Value, ∃ hs61 : List Value, ∃ zs : List ZH, Mid 83 B [(4, .pointer (some ⟨b3, 0, none⟩)), (7, .pointer (some ⟨b16, 0, none⟩))] (SS 34 44 2 (cZ44 zs) v60 hs61 (y63) :: OwnS 27 1 v33 (y35.map cI) :: Bx b16 26 [v33, v60] :: SS 34 44 2 (cZ44 zs) v8 hs37 (y36) :: OwnS 3 1 v12 (y38.map cI) :: Bx bq7_5_1 39 [v8, v12] :: Bx b3 26 [.slice none 0 0, .slice none 0 0] :: PZ 3 1 cI z0 zs y64 :: L) a w) (fun (_ : Unit) _ _ => False) ?_ ?_ ?_ ?_
        · rintro ⟨y51, y52, x53⟩ o65r hb67 a w ⟨v48, hs49, zs, he, hs⟩
          dsimp only [F4_L1] at hb67
          refine TC.use ?_ he hs
          refine TC.k ?_
          refine TC.region ?_
          refine TO.s rfl rfl rfl (StepS.cmp rfl rfl rfl) ?_
          refine TO.code ?_
          refine TC.k ?_
          refine TC.cond rfl (fun hc68 => ?_) (fun hc68 => ?_)
          · replace hb67 := cond_t hc68 hb67
            refine TC.skipk ?_
            refine TC.k ?_
            refine TC.block ?_
            refine TC.k ?_
            refine TC.region ?_
            obtain ⟨x69, hx70, hb67⟩ := bind_some hb67
            refine TO.s rfl rfl rfl (StepS.idxRR rfl rfl (SS.rr (Ent.at 3 rfl)) ksliceB_24_34_1_true hx70) ?_
            refine TO.s rfl rfl rfl (StepS.ldRR rfl (SS.rr (Ent.at 3 rfl)) kscalB_34_true hx70) ?_
            refine TO.s rfl rfl rfl (StepS.assign rfl) ?_
            refine TO.code ?_
            refine TC.k ?_
            refine TC.region ?_
            refine TO.s rfl rfl rfl (StepS.assign rfl) ?_
            refine TO.code ?_
            refine TC.k ?_
            refine TC.k ?_
            refine TC.region ?_
            refine TO.s rfl rfl rfl (StepS.move rfl) ?_
            refine TO.s rfl rfl rfl (StepS.lenm rfl (RR.row (SS.rr (Ent.at 3 rfl)) hx70) ksliceB_34_44_2_true rfl) ?_
            refine TO.s rfl rfl rfl (StepS.move rfl) ?_
            refine TO.code ?_
            obtain ⟨o86, hw87, hb67⟩ := bind_some hb67
            refine TC.loop hw87 (fun (y74, y75, x76) => fun a w => ∃ v72 : Value, ∃ zs : List ZH, Mid 83 B [(4, .pointer (some ⟨b3, 0, none⟩)), (7, .pointer (some ⟨b16, 0, none⟩)), (12, v72), (51, v8), (52, I (y36.length : Int)), (53, I x53), (57, (rowv hs37 x53.toNat)), (58, I (x69.length : Int)), (59, I x76)] (OwnS 44 2 v72 (y74.map (cZ44 zs)) :: SS 34 44 2 (cZ44 zs) v48 hs49 (y51) :: OwnS 27 1 v33 (y35.map cI) :: Bx b16 26 [v33, v48] :: SS 34 44 2 (cZ44 zs) v8 hs37 (y36) :: OwnS 3 1 v12 (y38.map cI) :: Bx bq7_5_1 39 [v8, v12] :: Bx b3 26 [.slice none 0 0, .slice none 0 0] :: PZ 3 1 cI z0 zs y75 :: L) a w) (fun (y84, y85) => fun a w => ∃ v82 : Value, ∃ zs : List ZH, Mid 83 B [(4, .pointer (some ⟨b3, 0, none⟩)), (7, .pointer (some ⟨b16, 0, none⟩)), (12, v82), (51, v8), (52, I (y36.length : Int)), (53, I x53)] (OwnS 44 2 v82 (y84.map (cZ44 zs)) :: SS 34 44 2 (cZ44 zs) v48 hs49 (y51) :: OwnS 27 1 v33 (y35.map cI) :: Bx b16 26 [v33, v48] :: SS 34 44 2 (cZ44 zs) v8 hs37 (y36) :: OwnS 3 1 v12 (y38.map cI) :: Bx bq7_5_1 39 [v8, v12] :: Bx b3 26 [.slice none 0 0, .slice none 0 0] :: PZ 3 1 cI z0 zs y85 :: L) a w) (fun (_ : Unit) _ _ => False) ?_ ?_ ?_ ?_
            · rintro ⟨y74, y75, x76⟩ o86r hb88 a w ⟨v72, zs, he, hs⟩
              dsimp only [F4_L2] at hb88
              refine TC.use ?_ he hs
              refine TC.k ?_
              refine TC.region ?_
              refine TO.s rfl rfl rfl (StepS.cmp rfl rfl rfl) ?_
              refine TO.code ?_
              refine TC.k ?_
              refine TC.cond rfl (fun hc89 => ?_) (fun hc89 => ?_)
              · replace hb88 := cond_t hc89 hb88
                refine TC.skipk ?_
                refine TC.k ?_
                refine TC.block ?_
                refine TC.k ?_
                refine TC.region ?_
                obtain ⟨x90, hx91, hb88⟩ := bind_some hb88
                refine TO.s rfl rfl rfl (StepS.idx rfl rfl (RR.row (SS.rr (Ent.at 4 rfl)) hx70) ksliceB_34_44_2_true (idx_spec hx91).1 (idxm_lt hx91)) ?_
                refine TO.s rfl rfl rfl (StepS.ldE rfl (RR.row (SS.rr (Ent.at 4 rfl)) hx70) kaggB_44_2_true rfl (idxm hx91)) ?_
                refine TO.alloc kinfo_44_bind_zero_some_agg_I_0_slice_none_0_0 rfl rfl fun b92 => ?_
                refine TO.stB (us := [I x90.1, zv zs x90.2]) 0 [I x90.1, zv zs x90.2] rfl rfl rfl ksizeB_44_2_true rfl rfl rfl (by simp [Value.oneCell']) rfl ?_
                refine TO.code ?_
                refine TC.region_any (Bx b92 44 [I x90.1, zv zs x90.2] :: SS 34 44 2 (cZ44 zs) v48 hs49 (y51) :: OwnS 27 1 v33 (y35.map cI) :: Bx b16 26 [v33, v48] :: SS 34 44 2 (cZ44 zs) v8 hs37 (y36) :: OwnS 3 1 v12 (y38.map cI) :: Bx bq7_5_1 39 [v8, v12] :: Bx b3 26 [.slice none 0 0, .slice none 0 0] :: L) 10 10 kfollows_mixedOrders_true rfl ?_
                refine TA.takeW 0 rfl rfl rfl rfl (StepS.move rfl) (by kernel_rfl) (by kernel_rfl) (by kernel_rfl) rfl (.inr (fun _ s => Sat.by [8, 8, 8, 8, 8, 8, 8, 7] 8 2 (by kernel_rfl) s)) ?_
                refine TA.takeW 1 rfl rfl rfl rfl (StepS.fld rfl kfieldB_44_0_0_true) (by kernel_rfl) (by kernel_rfl) (by kernel_rfl) rfl (.inr (fun _ s => Sat.by [8, 8, 8, 8, 8, 8, 8, 7] 8 2 (by kernel_rfl) s)) ?_
                refine TA.take 2 rfl rfl rfl rfl (StepS.ldB rfl (Ent.at 0 rfl) kscalB_3_true rfl) (by kernel_rfl) (by kernel_rfl) (by kernel_rfl) (by kernel_rfl) (by kernel_rfl) (fun _ s => Sat.by [8, 8, 8, 8, 8, 8, 8, 7] 8 2 (by kernel_rfl) s) ?_
                refine TA.takeW 3 rfl rfl rfl rfl (StepS.fld rfl kfieldB_44_1_1_true) (by kernel_rfl) (by kernel_rfl) (by kernel_rfl) rfl (.inr (fun _ s => Sat.by [8, 8, 8, 8, 8, 8, 8, 7] 8 2 (by kernel_rfl) s)) ?_
                refine TA.all1 (i := 4) (by kernel_rfl) ?_
                refine TB.of rfl ?_
                obtain ⟨lq93_4_1, hzq93_4_2, hb88⟩ := bind_some hb88
                refine TO.s rfl rfl rfl (StepS.ldB rfl (Ent.at 0 rfl) kscalB_37_true rfl) ?_
                refine TA.back (.inr (fun _ s => Sat.by [8, 8, 8, 8, 8, 8, 8, 7] 8 2 (by kernel_rfl) s)) ?_
                refine TA.asL (L' := (Bx b92 44 [I x90.1, zv zs x90.2] :: OwnS 44 2 v72 (y74.map (cZ44 zs)) :: SS 34 44 2 (cZ44 zs) v48 hs49 (y51) :: OwnS 27 1 v33 (y35.map cI) :: Bx b16 26 [v33, v48] :: SS 34 44 2 (cZ44 zs) v8 hs37 (y36) :: OwnS 3 1 v12 (y38.map cI) :: Bx bq7_5_1 39 [v8, v12] :: Bx b3 26 [.slice none 0 0, .slice none 0 0] :: PZ 3 1 cI z0 zs y75 :: L)) (listed' := #[true, true, true, true, true, false, false, false, false, false]) (by kernel_rfl) (by kernel_rfl) ?_
                refine TA.all1 (i := 5) (by kernel_rfl) ?_
                refine TB.of rfl ?_
                obtain ⟨rq93_5_1, hcq93_5_2, hb88⟩ := bind_some hb88
                refine TO.callO kcallB_10_true rfl rfl rfl (fun _ st => C10 (PZ.rd (Ent.at 9 rfl) hzq93_4_2) hcq93_5_2 st) ?_
                rintro vq93_5_3 _ ⟨_, rfl, rfl⟩
                refine TA.back (.inr (fun _ s => Sat.by [9, 9, 9, 9, 9, 9, 9, 8] 8 3 (by kernel_rfl) s)) ?_
                refine TA.asL (L' := (OwnS 3 1 vq93_5_3 (rq93_5_1.map cI) :: Bx b92 44 [I x90.1, zv zs x90.2] :: OwnS 44 2 v72 (y74.map (cZ44 zs)) :: SS 34 44 2 (cZ44 zs) v48 hs49 (y51) :: OwnS 27 1 v33 (y35.map cI) :: Bx b16 26 [v33, v48] :: SS 34 44 2 (cZ44 zs) v8 hs37 (y36) :: OwnS 3 1 v12 (y38.map cI) :: Bx bq7_5_1 39 [v8, v12] :: Bx b3 26 [.slice none 0 0, .slice none 0 0] :: PZ 3 1 cI z0 zs y75 :: L)) (listed' := #[true, true, true, true, true, true, false, false, false, false]) (by kernel_rfl) (by kernel_rfl) ?_
                refine TA.all1 (i := 6) (by kernel_rfl) ?_
                refine TB.of rfl ?_
                obtain ⟨_, hkq93_6_1, hb88⟩ := bind_some hb88
                obtain ⟨_, hkq93_6_2, hb88⟩ := bind_some hb88
                obtain ⟨_, hkq93_6_3, hb88⟩ := bind_some hb88
                obtain ⟨_, hkq93_6_4, hb88⟩ := bind_some hb88
                refine TO.pure (φ := zs.length = (y75).length) (fun _ s => (PZ.pure (Ent.at 10 rfl) s).1) fun hzq93_6_5 => ?_
                refine TO.pure (φ := ∃ q, vq93_5_3 = sv q) (fun _ s => OwnS.isS (Ent.at 0 rfl) s) fun hqq93_6_6 => ?_
                obtain ⟨hqq93_6_6, rfl⟩ := hqq93_6_6
                rw [show zv zs x90.2 = zv (zs ++ [hqq93_6_6]) x90.2 from zv_app (by rw [hzq93_6_5]; exact zok_spec hkq93_6_1)]
                rw [show y74.map (cZ44 zs) = y74.map (cZ44 (zs ++ [hqq93_6_6])) from zext hzq93_6_5 hkq93_6_2 (fun _ _ _ e => by simp only [cZ44, e])]
                rw [show SS 34 44 2 (cZ44 zs) v48 hs49 (y51) = SS 34 44 2 (cZ44 (zs ++ [hqq93_6_6])) v48 hs49 (y51) from SS.zext hzq93_6_5 hkq93_6_3 (fun _ _ _ e => by simp only [cZ44, e])]
                rw [show SS 34 44 2 (cZ44 zs) v8 hs37 (y36) = SS 34 44 2 (cZ44 (zs ++ [hqq93_6_6])) v8 hs37 (y36) from SS.zext hzq93_6_5 hkq93_6_4 (fun _ _ _ e => by simp only [cZ44, e])]
                refine TO.ghost (fun _ s => Sat.front 10 rfl s) ?_
                refine TO.ghost (fun _ s => Sat.front 1 rfl s) ?_
                refine TO.ghost (fun _ s => Sat.freezeZ s) ?_
                try rw [zv_new (h := hqq93_6_6) hzq93_6_5]
                generalize zs ++ [hqq93_6_6] = zs
                refine TO.s rfl rfl rfl (StepS.build (cs := [I x90.1, zv zs ((y75).length)]) rfl (by kernel_rfl)) ?_
                refine TA.back (.inr (fun _ s => Sat.by [9, 9, 9, 9, 9, 9, 9, 8] 8 2 (by kernel_rfl) s)) ?_
                refine TA.asL (L' := (PZ 3 1 cI z0 zs (y75 ++ [rq93_5_1]) :: Bx b92 44 [I x90.1, zv zs x90.2] :: OwnS 44 2 v72 (y74.map (cZ44 zs)) :: SS 34 44 2 (cZ44 zs) v48 hs49 (y51) :: OwnS 27 1 v33 (y35.map cI) :: Bx b16 26 [v33, v48] :: SS 34 44 2 (cZ44 zs) v8 hs37 (y36) :: OwnS 3 1 v12 (y38.map cI) :: Bx bq7_5_1 39 [v8, v12] :: Bx b3 26 [.slice none 0 0, .slice none 0 0] :: L)) (listed' := #[true, true, true, true, true, true, true, false, false, false]) (by kernel_rfl) (by kernel_rfl) ?_
                refine TA.all1 (i := 7) (by kernel_rfl) ?_
                refine TB.of rfl ?_
                refine TO.litS (f := (cZ44 zs)) ([(x90.1, (y75).length)] : List (Int × Nat)) kelemB_34_44_2_32_true kinfo_44_bind_zero_some_agg_I_0_slice_none_0_0 rfl rfl (fun _ => rfl) rfl rfl (by kernel_rfl) rfl fun vq93_7_1 => ?_
                refine TA.back (.inr (fun _ s => Sat.by [10, 10, 10, 10, 10, 10, 10, 9] 8 3 (by kernel_rfl) s)) ?_
                refine TA.asL (L' := (OwnS 44 2 vq93_7_1 (([(x90.1, (y75).length)] : List (Int × Nat)).map (cZ44 zs)) :: PZ 3 1 cI z0 zs (y75 ++ [rq93_5_1]) :: Bx b92 44 [I x90.1, zv zs x90.2] :: OwnS 44 2 v72 (y74.map (cZ44 zs)) :: SS 34 44 2 (cZ44 zs) v48 hs49 (y51) :: OwnS 27 1 v33 (y35.map cI) :: Bx b16 26 [v33, v48] :: SS 34 44 2 (cZ44 zs) v8 hs37 (y36) :: OwnS 3 1 v12 (y38.map cI) :: Bx bq7_5_1 39 [v8, v12] :: Bx b3 26 [.slice none 0 0, .slice none 0 0] :: L)) (listed' := #[true, true, true, true, true, true, true, true, false, false]) (by kernel_rfl) (by kernel_rfl) ?_
                refine TA.all1 (i := 8) (by kernel_rfl) ?_
                refine TB.of rfl ?_
                obtain ⟨yq93_8_1, hkq93_8_2, hb88⟩ := bind_some hb88
                refine TO.app (k := 3) (f := (cZ44 zs)) kelemB_34_44_2_32_true (by decide) rfl rfl rfl (OwnS.rd (Ent.at 0 rfl)) hkq93_8_2 (fun x c hc => by simp [Value.oneCell'] at hc ⊢; first | (obtain rfl := hc; rfl) | (rcases hc with rfl | rfl <;> rfl)) rfl rfl fun vq93_8_3 => ?_
                refine TA.back (.inr (fun _ s => Sat.by [10, 10, 10, 10, 10, 10, 10, 9] 8 3 (by kernel_rfl) s)) ?_
                refine TA.asL (L' := (OwnS 44 2 vq93_7_1 (([(x90.1, (y75).length)] : List (Int × Nat)).map (cZ44 zs)) :: PZ 3 1 cI z0 zs (y75 ++ [rq93_5_1]) :: Bx b92 44 [I x90.1, zv zs x90.2] :: OwnS 44 2 vq93_8_3 (yq93_8_1.map (cZ44 zs)) :: SS 34 44 2 (cZ44 zs) v48 hs49 (y51) :: OwnS 27 1 v33 (y35.map cI) :: Bx b16 26 [v33, v48] :: SS 34 44 2 (cZ44 zs) v8 hs37 (y36) :: OwnS 3 1 v12 (y38.map cI) :: Bx bq7_5_1 39 [v8, v12] :: Bx b3 26 [.slice none 0 0, .slice none 0 0] :: L)) (listed' := #[true, true, true, true, true, true, true, true, true, false]) (by kernel_rfl) (by kernel_rfl) ?_
                refine TA.takeW 9 rfl rfl rfl rfl (StepS.assign rfl) (by kernel_rfl) (by kernel_rfl) (by kernel_rfl) rfl (.inr (fun _ s => Sat.by [10, 10, 10, 10, 10, 10, 10, 9] 8 3 (by kernel_rfl) s)) ?_
                refine TA.code (by kernel_rfl) ?_
                refine TC.region ?_
                refine TO.s rfl rfl rfl (StepS.ari rfl rfl rfl) ?_
                refine TO.s rfl rfl rfl (StepS.move rfl) ?_
                cases hb88
                refine TO.nil fun a w e s => ?_
                exact ⟨vq93_8_3, zs, e.sub (lk_of_allIn ⟨rfl, rfl, rfl, rfl, rfl, rfl, rfl, rfl, rfl, trivial⟩), s.mono fun _ s => (by exact Sat.by [1, 10, 10, 10, 10, 10, 10, 10, 10] 9 2 (by kernel_rfl) s)⟩
              · replace hb88 := cond_f hc89 hb88
                cases hb88
                refine TC.exit rfl fun a w e s => ?_
                exact ⟨v72, zs, e.sub (lk_of_allIn ⟨rfl, rfl, rfl, rfl, rfl, rfl, trivial⟩), s⟩
            · exact fun a w e s => ⟨.slice none 0 0, zs, e.sub (lk_of_allIn ⟨rfl, rfl, rfl, rfl, rfl, rfl, rfl, rfl, rfl, trivial⟩), s.mono fun _ s => (by replace s := Sat.nilS (e := 44) (sz := 2) (f := (cZ44 zs)) s; exact Sat.by [8, 8, 8, 8, 8, 8, 8, 8, 8] 9 0 (by kernel_rfl) s)⟩
            · rintro ⟨y84, y85⟩ rfl a w ⟨v82, zs, he, hs⟩
              dsimp only [Ctl.on] at hb67
              refine TC.use ?_ he hs
              refine TC.k ?_
              refine TC.region ?_
              refine TO.s rfl rfl rfl (StepS.move rfl) ?_
              obtain ⟨y94, hs95, hb67⟩ := bind_some hb67
              refine TO.sortK (f := (cZ44 zs)) 0 (fun z => F12 z.1 z.2 y85) kcallB_11_true sklay (fun _ => rfl) (fun x c hc => by simp [Value.oneCell'] at hc ⊢; first | (obtain rfl := hc; rfl) | (rcases hc with rfl | rfl <;> rfl)) hs95 kcallB_12_true rfl rfl rfl rfl (fun _ _ hE x y r hm w st => C12 (zs := zs) (hE _ (Ent.at 7 rfl)) hm st) rfl ?_
              refine TO.code ?_
              refine TC.region ?_
              refine TO.s rfl rfl rfl (StepS.fld rfl kfieldB_26_1_1_true) ?_
              refine TO.s rfl rfl rfl (StepS.ldB rfl (Ent.at 3 rfl) kscalB_24_true rfl) ?_
              refine TO.s rfl rfl rfl (StepS.move rfl) ?_
              refine TO.lit1H rfl (OwnS.rd (Ent.at 0 rfl)) kelemB_24_34_1_24_true rfl fun v96 => ?_
              refine TO.ghost (fun _ s => Sat.front 2 rfl s) ?_
              refine TO.ghost (fun _ s => Sat.front 2 rfl s) ?_
              obtain ⟨y99, hk100, hb67⟩ := bind_some hb67
              refine TO.appSS (row := y94) rfl kelemB_24_34_1_24_true rfl rfl (OwnS.rd (Ent.at 0 rfl)) hk100 rfl rfl fun v101 hs102 => ?_
              refine TO.ghost (fun _ s => Sat.erase 1 s) ?_
              refine TO.s rfl rfl rfl (StepS.fld rfl kfieldB_26_1_1_true) ?_
              refine TO.pure (fun _ s => Rd.one (RR.top (SS.rr (Ent.at 0 rfl))) s) fun oc103 => ?_
              refine TO.stB (us := [v101]) 2 [v33, v101] rfl rfl rfl ksizeB_24_1_true oc103.2 rfl rfl (by intro u hu; simp only [List.mem_cons, List.not_mem_nil, or_false] at hu; rcases hu with rfl <;> first | exact oc103.1 | rfl) rfl ?_
              refine TO.code ?_
              refine TC.region ?_
              refine TO.s rfl rfl rfl (StepS.ari rfl rfl rfl) ?_
              refine TO.s rfl rfl rfl (StepS.move rfl) ?_
              cases hb67
              refine TO.nil fun a w e s => ?_
              exact ⟨v101, hs102, zs, e.sub (lk_of_allIn ⟨rfl, rfl, rfl, rfl, rfl, trivial⟩), s⟩
            · rintro r rfl
              exact fun a w h => h.elim
          · replace hb67 := cond_f hc68 hb67
            cases hb67
            refine TC.exit rfl fun a w e s => ?_
            exact ⟨v48, hs49, zs, e.sub (lk_of_allIn ⟨rfl, rfl, trivial⟩), s⟩
        · exact fun a w e s => ⟨.slice none 0 0, [], zs, e.sub (lk_of_allIn ⟨rfl, rfl, rfl, rfl, rfl, trivial⟩), s.mono fun _ s => (by replace s := Sat.nilSS (e := 34) (ee := 44) (sz := 2) (f := (cZ44 zs)) s; exact Sat.by [7, 7, 7, 7, 7, 7, 7, 7] 8 0 (by kernel_rfl) s)⟩
        · rintro ⟨y63, y64⟩ rfl a w ⟨v60, hs61, zs, he, hs⟩
          dsimp only [Ctl.on] at hm
          refine TC.use ?_ he hs
          refine TC.k ?_
          refine TC.region ?_
          refine TO.s rfl rfl rfl (StepS.ldBA rfl (Ent.at 2 rfl) kaggB_26_2_true rfl rfl) ?_
          refine TO.pure (fun _ s => Rd.one (OwnS.rd (Ent.at 1 rfl)) s) fun oc104 => ?_
          refine TO.pure (fun _ s => Rd.one (RR.top (SS.rr (Ent.at 0 rfl))) s) fun oc105 => ?_
          refine TO.stB (us := [v33, v60]) 6 [v33, v60] rfl rfl rfl ksizeB_26_2_true rfl rfl rfl (by intro u hu; simp only [List.mem_cons, List.not_mem_nil, or_false] at hu; rcases hu with rfl | rfl <;> first | exact oc104.1 | exact oc105.1 | rfl) rfl ?_
          refine TO.s rfl rfl rfl (StepS.assign rfl) ?_
          refine TO.code ?_
          cases hm
          refine TC.ret fun a w e s => ?_
          refine FRet.cell2 (P := Try.prog) (fn := Try.f4) e s rfl rfl rfl (Ent.at 6 rfl) kaggB_26_2_true rfl ?_
          refine ⟨_, _, rfl, ⟨zs, (v33), (v60), (hs61), rfl, rfl⟩, ?_⟩
          refine s.mono fun _ s => ?_
          replace s := Sat.front 0 rfl s
          replace s := Sat.front 1 rfl s
          replace s := Sat.front 7 rfl s
          replace s := Sat.erase 3 s
          replace s := Sat.erase 3 s
          replace s := Sat.erase 3 s
          replace s := Sat.erase 3 s
          replace s := Sat.erase 3 s
          exact s
        · rintro r rfl
          exact fun a w h => h.elim
      · rintro r rfl
        exact fun a w h => h.elim
end Go.Proofs.Ytgofkfhkolkfmaa
