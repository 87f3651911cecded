/-
  The walks: each Go function returns what its model says. Written by a program (gen.py).
-/
import Derived.Test.YthfkdepcnhhepaaProg
import Derived.KernelRfl
import Derived.Test.YthfkdepcnhhepaaKW
import Derived.Test.YthfkdepcnhhepaaXM
namespace Go.Proofs.Ythfkdepcnhhepaa
open Go Go.Bk
set_option linter.unusedVariables false
set_option linter.unnecessarySimpa false
theorem kscalB_115_true : scalB Try.prog 115 = true := by kernel_rfl
theorem ksliceB_115_4_1_true : sliceB Try.prog 115 4 1 = true := by kernel_rfl
theorem kscalB_4_true : scalB Try.prog 4 = true := by kernel_rfl
theorem kscalB_50_true : scalB Try.prog 50 = true := by kernel_rfl
theorem kelemB_22_3_1_8_true : elemB Try.prog 22 3 1 8 = true := by kernel_rfl
theorem ksizeB_22_1_true : sizeB Try.prog 22 1 = true := by kernel_rfl
theorem ksizeB_4_1_true : sizeB Try.prog 4 1 = true := by kernel_rfl
theorem ksizeB_3_1_true : sizeB Try.prog 3 1 = true := by kernel_rfl
theorem kscalB_136_true : scalB Try.prog 136 = true := by kernel_rfl
theorem ksizeB_136_1_true : sizeB Try.prog 136 1 = true := by kernel_rfl
theorem kinfo_3_bind_zero_some_I_0 : (Try.prog.info? 3).bind (·.zero) = some (I 0) := by kernel_rfl
theorem kscalB_139_true : scalB Try.prog 139 = true := by kernel_rfl
theorem kcallB_85_true : callB Try.prog 85 = true := by kernel_rfl
theorem kinfo_80_bind_zero_some_agg_slice_none_0_0_U_0_U_0_I_0 : (Try.prog.info? 80).bind (·.zero) = some (.agg #[.slice none 0 0, U 0, U 0, I 0]) := by kernel_rfl
theorem ksizeB_80_4_true : sizeB Try.prog 80 4 = true := by kernel_rfl
theorem kinfo_22_bind_zero_some_slice_none_0_0 : (Try.prog.info? 22).bind (·.zero) = some (.slice none 0 0) := by kernel_rfl
theorem kelemB_50_22_1_24_true : elemB Try.prog 50 22 1 24 = true := by kernel_rfl
theorem kinfo_50_bind_zero_some_slice_none_0_0 : (Try.prog.info? 50).bind (·.zero) = some (.slice none 0 0) := by kernel_rfl
theorem ksizeB_50_1_true : sizeB Try.prog 50 1 = true := by kernel_rfl
theorem kelemB_115_4_1_1_true : elemB Try.prog 115 4 1 1 = true := by kernel_rfl
theorem kinfo_4_bind_zero_some_bool_false : (Try.prog.info? 4).bind (·.zero) = some (.bool false) := by kernel_rfl
theorem kinfo_115_bind_zero_some_slice_none_0_0 : (Try.prog.info? 115).bind (·.zero) = some (.slice none 0 0) := by kernel_rfl
theorem ksizeB_115_1_true : sizeB Try.prog 115 1 = true := by kernel_rfl
theorem kinfo_136_bind_zero_some_slice_none_0_0 : (Try.prog.info? 136).bind (·.zero) = some (.slice none 0 0) := by kernel_rfl
theorem kinfo_139_bind_zero_some_nilFunc : (Try.prog.info? 139).bind (·.zero) = some (.nilFunc) := by kernel_rfl
theorem ksizeB_139_1_true : sizeB Try.prog 139 1 = true := by kernel_rfl
theorem ksliceB_23_106_4_true : sliceB Try.prog 23 106 4 = true := by kernel_rfl
theorem kaggB_106_4_true : aggB Try.prog 106 4 = true := by kernel_rfl
theorem kinfo_106_bind_zero_some_agg_I_0_I_0_I_0_I_0 : (Try.prog.info? 106).bind (·.zero) = some (.agg #[I 0, I 0, I 0, I 0]) := by kernel_rfl
theorem ksizeB_106_4_true : sizeB Try.prog 106 4 = true := by kernel_rfl
theorem kcallB_61_true : callB Try.prog 61 = true := by kernel_rfl
theorem kfieldB_106_0_0_true : fieldB Try.prog 106 0 0 = true := by kernel_rfl
theorem kcallB_57_true : callB Try.prog 57 = true := by kernel_rfl
theorem kcallB_66_true : callB Try.prog 66 = true := by kernel_rfl
theorem kcallB_86_true : callB Try.prog 86 = true := by kernel_rfl
theorem kfieldB_80_0_0_true : fieldB Try.prog 80 0 0 = true := by kernel_rfl
theorem kscalB_24_true : scalB Try.prog 24 = true := by kernel_rfl
theorem kelemB_24_28_1_8_true : elemB Try.prog 24 28 1 8 = true := by kernel_rfl
theorem kinfo_28_bind_zero_some_I_0 : (Try.prog.info? 28).bind (·.zero) = some (I 0) := by kernel_rfl
theorem ksizeB_24_1_true : sizeB Try.prog 24 1 = true := by kernel_rfl
theorem kfieldB_138_2_2_true : fieldB Try.prog 138 2 2 = true := by kernel_rfl
theorem kcallB_62_true : callB Try.prog 62 = true := by kernel_rfl
theorem kfieldB_80_1_1_true : fieldB Try.prog 80 1 1 = true := by kernel_rfl
theorem kscalB_36_true : scalB Try.prog 36 = true := by kernel_rfl
theorem kintB_3_i64_true : intB Try.prog 3 .i64 = true := by kernel_rfl
theorem kintB_108_u64_true : intB Try.prog 108 .u64 = true := by kernel_rfl
theorem ksizeB_36_1_true : sizeB Try.prog 36 1 = true := by kernel_rfl
theorem kfieldB_80_2_2_true : fieldB Try.prog 80 2 2 = true := by kernel_rfl
theorem kfieldB_80_3_3_true : fieldB Try.prog 80 3 3 = true := by kernel_rfl
theorem kaggB_80_4_true : aggB Try.prog 80 4 = true := by kernel_rfl

set_option maxRecDepth 100000 in
theorem C85 {B : World} {L : List HP} {a0 : Int} {a1 : List Bool} {a2 : List Bool} {a3 : List (List Int)} {a4 : List Int} {a5 : List (Int × Int × Int)} {b1_ : Nat} {h1_1 : Value} {b2_ : Nat} {h2_1 : Value} {b3_ : Nat} {h3_1 : Value} {h3_2 : List Value} {b4_ : Nat} {h4_1 : Value} {b5_ : Nat} {h5_1 : Value} {s0 : List Bool} {s1 : List Bool} {s2 : List (List Int)} {s3 : List Int} {s4 : List (Int × Int × Int)} (hm : F85 a0 a1 a2 a3 a4 a5 = some (s0, s1, s2, s3, s4)) {w : World} (st : St B (Bx b1_ 115 [h1_1] :: OwnS 4 1 h1_1 (a1.map cB) :: Bx b2_ 115 [h2_1] :: OwnS 4 1 h2_1 (a2.map cB) :: Bx b3_ 50 [h3_1] :: SS 22 3 1 cI h3_1 h3_2 (a3) :: Bx b4_ 22 [h4_1] :: OwnS 3 1 h4_1 (a4.map cI) :: Bx b5_ 136 [h5_1] :: OwnS 138 3 h5_1 (a5.map cTiii) :: L) w) : Calls Try.prog 85 #[I a0, .pointer (some ⟨b1_, 0, none⟩), .pointer (some ⟨b2_, 0, none⟩), .pointer (some ⟨b3_, 0, none⟩), .pointer (some ⟨b4_, 0, none⟩), .pointer (some ⟨b5_, 0, none⟩)] w (fun e w' => ∃ v M, e = .returned v ∧ (∃ (qv1 : Value) (qv2 : Value) (qv3 : Value) (qhs4 : List Value) (qv5 : Value) (qv6 : Value), v = .tuple #[] ∧ M = (Bx b1_ 115 [qv1] :: OwnS 4 1 qv1 (s0.map cB) :: Bx b2_ 115 [qv2] :: OwnS 4 1 qv2 (s1.map cB) :: Bx b3_ 50 [qv3] :: SS 22 3 1 cI qv3 qhs4 (s2) :: Bx b4_ 22 [qv5] :: OwnS 3 1 qv5 (s3.map cI) :: Bx b5_ 136 [qv6] :: OwnS 138 3 qv6 (s4.map cTiii) :: L)) ∧ St B M w') := by
  refine calls_of (N := 74) (L := (Bx b1_ 115 [h1_1] :: OwnS 4 1 h1_1 (a1.map cB) :: Bx b2_ 115 [h2_1] :: OwnS 4 1 h2_1 (a2.map cB) :: Bx b3_ 50 [h3_1] :: SS 22 3 1 cI h3_1 h3_2 (a3) :: Bx b4_ 22 [h4_1] :: OwnS 3 1 h4_1 (a4.map cI) :: Bx b5_ 136 [h5_1] :: OwnS 138 3 h5_1 (a5.map cTiii) :: L)) (args := [I a0, .pointer (some ⟨b1_, 0, none⟩), .pointer (some ⟨b2_, 0, none⟩), .pointer (some ⟨b3_, 0, none⟩), .pointer (some ⟨b4_, 0, none⟩), .pointer (some ⟨b5_, 0, none⟩)]) Try.func85 rfl rfl rfl ?_ st
  dsimp only [F85] at hm
  refine TC.k ?_
  refine TC.k ?_
  refine TC.region ?_
  refine TO.s rfl rfl rfl (StepS.ldB rfl (Ent.at 0 rfl) kscalB_115_true rfl) ?_
  refine TO.s rfl rfl rfl (StepS.move rfl) ?_
  obtain ⟨x11, hx12, hm⟩ := bind_some hm
  refine TO.s rfl rfl rfl (StepS.idx rfl rfl (OwnS.rd (Ent.at 1 rfl)) ksliceB_115_4_1_true (idx_spec hx12).1 (idxm_lt hx12)) ?_
  refine TO.s rfl rfl rfl (StepS.ld0 rfl (OwnS.rd (Ent.at 1 rfl)) kscalB_4_true rfl (idxm hx12) rfl) ?_
  refine TO.s rfl rfl rfl (StepS.not rfl) ?_
  refine TO.s rfl rfl rfl (StepS.move rfl) ?_
  obtain ⟨b14, hj15, hm⟩ := bind_some hm
  refine TO.mid1 5 18 (.bool b14) ?_ ?_
  · refine bcase ((!x11)) (fun hb13 => ?_) (fun hb13 => ?_)
    · replace hj15 := cond_t hb13 hj15
      cases hj15
      refine TO.skip rfl rfl rfl (skipT hb13) rfl rfl ?_
      refine TO.skip rfl rfl rfl (skipT hb13) rfl rfl ?_
      refine TO.skip rfl rfl rfl (skipT hb13) rfl rfl ?_
      refine TO.skip rfl rfl rfl (skipT hb13) rfl rfl ?_
      refine TO.s rfl rfl rfl (StepS.pickT rfl hb13 rfl) ?_
      exact TO.up1 5 0 rfl rfl rfl rfl
    · replace hj15 := cond_f hb13 hj15
      refine TO.sw rfl rfl rfl hb13 rfl rfl (StepS.ldB rfl (Ent.at 2 rfl) kscalB_115_true rfl) ?_
      refine TO.sw rfl rfl rfl hb13 rfl rfl (StepS.move rfl) ?_
      obtain ⟨x16, hx17, hj15⟩ := bind_some hj15
      refine TO.sw rfl rfl rfl hb13 rfl rfl (StepS.idx rfl rfl (OwnS.rd (Ent.at 3 rfl)) ksliceB_115_4_1_true (idx_spec hx17).1 (idxm_lt hx17)) ?_
      refine TO.sw rfl rfl rfl hb13 rfl rfl (StepS.ld0 rfl (OwnS.rd (Ent.at 3 rfl)) kscalB_4_true rfl (idxm hx17) rfl) ?_
      cases hj15
      refine TO.s rfl rfl rfl (StepS.pickF rfl hb13 rfl) ?_
      exact TO.up1 5 0 rfl rfl rfl rfl
  refine TO.s rfl rfl rfl (StepS.move rfl) ?_
  obtain ⟨b19, hj20, hm⟩ := bind_some hm
  refine TO.mid1 7 26 (.bool b19) ?_ ?_
  · refine bcase (b14) (fun hb18 => ?_) (fun hb18 => ?_)
    · replace hj20 := cond_t hb18 hj20
      cases hj20
      refine TO.skip rfl rfl rfl (skipT hb18) rfl rfl ?_
      refine TO.skip rfl rfl rfl (skipT hb18) rfl rfl ?_
      refine TO.skip rfl rfl rfl (skipT hb18) rfl rfl ?_
      refine TO.skip rfl rfl rfl (skipT hb18) rfl rfl ?_
      refine TO.skip rfl rfl rfl (skipT hb18) rfl rfl ?_
      refine TO.skip rfl rfl rfl (skipT hb18) rfl rfl ?_
      refine TO.s rfl rfl rfl (StepS.pickT rfl hb18 rfl) ?_
      exact TO.up1 7 0 rfl rfl rfl rfl
    · replace hj20 := cond_f hb18 hj20
      refine TO.sw rfl rfl rfl hb18 rfl rfl (StepS.ldB rfl (Ent.at 4 rfl) kscalB_50_true rfl) ?_
      refine TO.sw rfl rfl rfl hb18 rfl rfl (StepS.move rfl) ?_
      obtain ⟨x21, hx22, hj20⟩ := bind_some hj20
      refine TO.sw rfl rfl rfl hb18 rfl rfl (StepS.idxRR rfl rfl (SS.rr (Ent.at 5 rfl)) ksliceB_50_22_1_true hx22) ?_
      refine TO.sw rfl rfl rfl hb18 rfl rfl (StepS.ldRR rfl (SS.rr (Ent.at 5 rfl)) kscalB_22_true hx22) ?_
      refine TO.sw rfl rfl rfl hb18 rfl rfl (StepS.lenm rfl (RR.row (SS.rr (Ent.at 5 rfl)) hx22) ksliceB_22_3_1_true rfl) ?_
      refine TO.sw rfl rfl rfl hb18 rfl rfl (StepS.cmp rfl rfl rfl) ?_
      cases hj20
      refine TO.s rfl rfl rfl (StepS.pickF rfl hb18 rfl) ?_
      exact TO.up1 7 0 rfl rfl rfl rfl
  refine TO.code ?_
  refine TC.cond rfl (fun hc24 => ?_) (fun hc24 => ?_)
  · replace hm := cond_t hc24 hm
    cases hm
    refine TC.ret fun a w e s => ?_
    refine FRet.mk0 (P := Try.prog) (fn := Try.f85) e rfl ?_
    refine ⟨_, _, rfl, ⟨(h1_1), (h2_1), (h3_1), (h3_2), (h4_1), (h5_1), rfl, rfl⟩, ?_⟩
    refine s.mono fun _ s => ?_
    exact Sat.by [9, 9, 9, 9, 9, 9, 9, 9, 9, 9] 10 0 (by kernel_rfl) s
  · replace hm := cond_f hc24 hm
    refine TC.skipk ?_
    refine TC.k ?_
    refine TC.region ?_
    refine TO.s rfl rfl rfl (StepS.ldB rfl (Ent.at 4 rfl) kscalB_50_true rfl) ?_
    refine TO.s rfl rfl rfl (StepS.move rfl) ?_
    obtain ⟨x25, hx26, hm⟩ := bind_some hm
    refine TO.s rfl rfl rfl (StepS.idxRR rfl rfl (SS.rr (Ent.at 5 rfl)) ksliceB_50_22_1_true hx26) ?_
    refine TO.s rfl rfl rfl (StepS.ldRR rfl (SS.rr (Ent.at 5 rfl)) kscalB_22_true hx26) ?_
    obtain ⟨x28, hx29, hm⟩ := bind_some hm
    refine TO.s rfl rfl rfl (StepS.idx rfl rfl (RR.row (SS.rr (Ent.at 5 rfl)) hx26) ksliceB_22_3_1_true (idx_spec hx29).1 (idxm_lt hx29)) ?_
    refine TO.s rfl rfl rfl (StepS.ld0 rfl (RR.row (SS.rr (Ent.at 5 rfl)) hx26) kscalB_3_true rfl (idxm hx29) rfl) ?_
    refine TO.s rfl rfl rfl (StepS.assign rfl) ?_
    refine TO.code ?_
    refine TC.k ?_
    refine TC.region_any (Bx b1_ 115 [h1_1] :: OwnS 4 1 h1_1 (a1.map cB) :: Bx b2_ 115 [h2_1] :: OwnS 4 1 h2_1 (a2.map cB) :: Bx b3_ 50 [h3_1] :: SS 22 3 1 cI h3_1 h3_2 (a3) :: Bx b4_ 22 [h4_1] :: OwnS 3 1 h4_1 (a4.map cI) :: Bx b5_ 136 [h5_1] :: OwnS 138 3 h5_1 (a5.map cTiii) :: L) 10 11 kfollows_mixedOrders_true rfl ?_
    refine TA.take 0 rfl rfl rfl rfl (StepS.ldB rfl (Ent.at 4 rfl) kscalB_50_true rfl) (by kernel_rfl) (by kernel_rfl) (by kernel_rfl) (by kernel_rfl) (by kernel_rfl) (fun _ s => s) ?_
    refine TA.takeW 1 rfl rfl rfl rfl (StepS.move rfl) (by kernel_rfl) (by kernel_rfl) (by kernel_rfl) rfl (.inr (fun _ s => s)) ?_
    refine TA.take 3 rfl rfl rfl rfl (StepS.ldB rfl (Ent.at 4 rfl) kscalB_50_true rfl) (by kernel_rfl) (by kernel_rfl) (by kernel_rfl) (by kernel_rfl) (by kernel_rfl) (fun _ s => s) ?_
    refine TA.takeW 4 rfl rfl rfl rfl (StepS.move rfl) (by kernel_rfl) (by kernel_rfl) (by kernel_rfl) rfl (.inr (fun _ s => s)) ?_
    obtain ⟨xq30_5_1, hxq30_5_2, hm⟩ := bind_some hm
    refine TA.take 5 rfl rfl rfl rfl (StepS.idxRR rfl rfl (SS.rr (Ent.at 5 rfl)) ksliceB_50_22_1_true hxq30_5_2) (by kernel_rfl) (by kernel_rfl) (by kernel_rfl) (by kernel_rfl) (by kernel_rfl) (fun _ s => s) ?_
    refine TA.take 6 rfl rfl rfl rfl (StepS.ldRR rfl (SS.rr (Ent.at 5 rfl)) kscalB_22_true hxq30_5_2) (by kernel_rfl) (by kernel_rfl) (by kernel_rfl) (by kernel_rfl) (by kernel_rfl) (fun _ s => s) ?_
    obtain ⟨yq30_7_1, hsq30_7_2, hm⟩ := bind_some hm
    obtain ⟨hsq30_7_2a, hsq30_7_2b, hsq30_7_2c, _⟩ := slI_spec hsq30_7_2
    refine TA.take 7 rfl rfl rfl rfl (StepS.slc rfl (RR.row (SS.rr (Ent.at 5 rfl)) hxq30_5_2) ksliceB_22_3_1_true rfl (by simp [bnd]) hsq30_7_2a hsq30_7_2b (by simpa using hsq30_7_2c)) (by kernel_rfl) (by kernel_rfl) (by kernel_rfl) (by kernel_rfl) (by kernel_rfl) (fun _ s => s) ?_
    refine TA.all1 (i := 2) (by kernel_rfl) ?_
    refine TB.of rfl ?_
    refine TO.lit0 (f := cI) ksliceB_22_3_1_true rfl fun vq30_2_1 => ?_
    refine TA.back (.inr (fun _ s => Sat.by [10, 10, 10, 10, 10, 10, 10, 10, 10, 10] 10 1 (by kernel_rfl) s)) ?_
    refine TA.asL (L' := (OwnS 3 1 vq30_2_1 (([] : List Int).map cI) :: Bx b1_ 115 [h1_1] :: OwnS 4 1 h1_1 (a1.map cB) :: Bx b2_ 115 [h2_1] :: OwnS 4 1 h2_1 (a2.map cB) :: Bx b3_ 50 [h3_1] :: SS 22 3 1 cI h3_1 h3_2 (a3) :: Bx b4_ 22 [h4_1] :: OwnS 3 1 h4_1 (a4.map cI) :: Bx b5_ 136 [h5_1] :: OwnS 138 3 h5_1 (a5.map cTiii) :: L)) (listed' := #[true, true, true, true, true, true, true, true, false, false, false]) (by kernel_rfl) (by kernel_rfl) ?_
    refine TA.all1 (i := 8) (by kernel_rfl) ?_
    refine TB.of rfl ?_
    obtain ⟨yq30_8_1, hkq30_8_2, hm⟩ := bind_some hm
    refine TO.app (k := 0) (f := cI) kelemB_22_3_1_8_true (by decide) rfl rfl rfl (Ent.sub (RR.row (SS.rr (Ent.at 6 rfl)) hxq30_5_2) hsq30_7_2) hkq30_8_2 (fun x c hc => by simp [Value.oneCell'] at hc ⊢; first | (obtain rfl := hc; rfl) | (rcases hc with rfl <;> rfl)) rfl rfl fun vq30_8_3 => ?_
    refine TA.back (.inr (fun _ s => Sat.by [10, 10, 10, 10, 10, 10, 10, 10, 10, 10] 10 1 (by kernel_rfl) s)) ?_
    refine TA.asL (L' := (OwnS 3 1 vq30_8_3 (yq30_8_1.map cI) :: Bx b1_ 115 [h1_1] :: OwnS 4 1 h1_1 (a1.map cB) :: Bx b2_ 115 [h2_1] :: OwnS 4 1 h2_1 (a2.map cB) :: Bx b3_ 50 [h3_1] :: SS 22 3 1 cI h3_1 h3_2 (a3) :: Bx b4_ 22 [h4_1] :: OwnS 3 1 h4_1 (a4.map cI) :: Bx b5_ 136 [h5_1] :: OwnS 138 3 h5_1 (a5.map cTiii) :: L)) (listed' := #[true, true, true, true, true, true, true, true, true, false, false]) (by kernel_rfl) (by kernel_rfl) ?_
    obtain ⟨xq30_9_1, hxq30_9_2, hm⟩ := bind_some hm
    refine TA.take 9 rfl rfl rfl rfl (StepS.idxRR rfl rfl (SS.rr (Ent.at 5 rfl)) ksliceB_50_22_1_true hxq30_9_2) (by kernel_rfl) (by kernel_rfl) (by kernel_rfl) (by kernel_rfl) (by kernel_rfl) (fun _ s => Sat.by [10, 10, 10, 10, 10, 10, 10, 10, 10, 10] 10 1 (by kernel_rfl) s) ?_
    refine TA.all1 (i := 10) (by kernel_rfl) ?_
    refine TB.of rfl ?_
    refine TO.ghost (fun _ s => Sat.front 6 rfl s) ?_
    refine TO.stRow (xs := yq30_8_1) rfl rfl hxq30_9_2 ksizeB_22_1_true ?_
    refine TA.back (.inl (by kernel_rfl)) ?_
    refine TA.asL (L' := (SS 22 3 1 cI h3_1 (h3_2.set a0.toNat vq30_8_3) (a3.set a0.toNat yq30_8_1) :: Bx b1_ 115 [h1_1] :: OwnS 4 1 h1_1 (a1.map cB) :: Bx b2_ 115 [h2_1] :: OwnS 4 1 h2_1 (a2.map cB) :: Bx b3_ 50 [h3_1] :: Bx b4_ 22 [h4_1] :: OwnS 3 1 h4_1 (a4.map cI) :: Bx b5_ 136 [h5_1] :: OwnS 138 3 h5_1 (a5.map cTiii) :: L)) (listed' := #[true, true, true, true, true, true, true, true, true, true, true]) (by kernel_rfl) (by kernel_rfl) ?_
    refine TA.code (by kernel_rfl) ?_
    refine TC.k ?_
    refine TC.k ?_
    refine TC.region ?_
    refine TO.s rfl rfl rfl (StepS.move rfl) ?_
    refine TO.s rfl rfl rfl (StepS.move rfl) ?_
    refine TO.s rfl rfl rfl (StepS.cmp rfl rfl rfl) ?_
    refine TO.code ?_
    refine TC.cond rfl (fun hc31 => ?_) (fun hc31 => ?_)
    · replace hm := cond_t hc31 hm
      refine TC.k ?_
      refine TC.region ?_
      refine TO.s rfl rfl rfl (StepS.ldB rfl (Ent.at 3 rfl) kscalB_115_true rfl) ?_
      refine TO.s rfl rfl rfl (StepS.move rfl) ?_
      obtain ⟨x32, hx33, hm⟩ := bind_some hm
      refine TO.s rfl rfl rfl (StepS.idx rfl rfl (OwnS.rd (Ent.at 4 rfl)) ksliceB_115_4_1_true (idx_spec hx33).1 (idxm_lt hx33)) ?_
      refine TO.stO (i := a0.toNat) (off := 0) (us := [.bool true]) 4 true rfl rfl rfl ksizeB_4_1_true rfl rfl rfl (idx_spec hx33).2 rfl (by simp [Value.oneCell']) rfl ?_
      refine TO.code ?_
      cases hm
      refine TC.ret fun a w e s => ?_
      refine FRet.mk0 (P := Try.prog) (fn := Try.f85) e rfl ?_
      refine ⟨_, _, rfl, ⟨(h1_1), (h2_1), (h3_1), ((h3_2.set a0.toNat vq30_8_3)), (h4_1), (h5_1), rfl, rfl⟩, ?_⟩
      refine s.mono fun _ s => ?_
      exact Sat.by [9, 9, 9, 9, 4, 9, 9, 9, 9, 9] 10 0 (by kernel_rfl) s
    · replace hm := cond_f hc31 hm
      refine TC.skipk ?_
      refine TC.k ?_
      refine TC.region ?_
      refine TO.s rfl rfl rfl (StepS.ldB rfl (Ent.at 1 rfl) kscalB_115_true rfl) ?_
      refine TO.s rfl rfl rfl (StepS.move rfl) ?_
      obtain ⟨x34, hx35, hm⟩ := bind_some hm
      refine TO.s rfl rfl rfl (StepS.idx rfl rfl (OwnS.rd (Ent.at 2 rfl)) ksliceB_115_4_1_true (idx_spec hx35).1 (idxm_lt hx35)) ?_
      refine TO.stO (i := a0.toNat) (off := 0) (us := [.bool false]) 2 false rfl rfl rfl ksizeB_4_1_true rfl rfl rfl (idx_spec hx35).2 rfl (by simp [Value.oneCell']) rfl ?_
      refine TO.code ?_
      refine TC.k ?_
      refine TC.region ?_
      refine TO.s rfl rfl rfl (StepS.ldB rfl (Ent.at 6 rfl) kscalB_22_true rfl) ?_
      refine TO.s rfl rfl rfl (StepS.move rfl) ?_
      refine TO.s rfl rfl rfl (StepS.move rfl) ?_
      obtain ⟨x36, hx37, hm⟩ := bind_some hm
      refine TO.s rfl rfl rfl (StepS.idx rfl rfl (OwnS.rd (Ent.at 7 rfl)) ksliceB_22_3_1_true (idx_spec hx37).1 (idxm_lt hx37)) ?_
      refine TO.stO (i := a0.toNat) (off := 0) (us := [I x28]) 7 x28 rfl rfl rfl ksizeB_3_1_true rfl rfl rfl (idx_spec hx37).2 rfl (by simp [Value.oneCell']) rfl ?_
      refine TO.code ?_
      refine TC.k ?_
      refine TC.region ?_
      refine TO.s rfl rfl rfl (StepS.ldB rfl (Ent.at 8 rfl) kscalB_136_true rfl) ?_
      refine TO.s rfl rfl rfl (StepS.move rfl) ?_
      refine TO.s rfl rfl rfl (StepS.move rfl) ?_
      refine TO.s rfl rfl rfl (StepS.build (cs := [I a0, I x28, I 1]) rfl (by kernel_rfl)) ?_
      refine TO.litS (f := cTiii) ([(a0, x28, 1)] : List (Int × Int × Int)) kelemB_136_138_3_24_true kinfo_138_bind_zero_some_agg_I_0_I_0_I_0 rfl rfl (fun _ => rfl) rfl rfl (by kernel_rfl) rfl fun v38 => ?_
      obtain ⟨y40, hk41, hm⟩ := bind_some hm
      refine TO.app (k := 10) (f := cTiii) kelemB_136_138_3_24_true (by decide) rfl rfl rfl (OwnS.rd (Ent.at 0 rfl)) hk41 (fun x c hc => by simp [Value.oneCell'] at hc ⊢; first | (obtain rfl := hc; rfl) | (rcases hc with rfl | rfl | rfl <;> rfl)) rfl rfl fun v42 => ?_
      refine TO.pure (fun _ s => Rd.one (OwnS.rd (Ent.at 10 rfl)) s) fun oc43 => ?_
      refine TO.stB (us := [v42]) 9 [v42] rfl rfl rfl ksizeB_136_1_true oc43.2 rfl rfl (by intro u hu; simp only [List.mem_cons, List.not_mem_nil, or_false] at hu; rcases hu with rfl <;> first | exact oc43.1 | rfl) rfl ?_
      refine TO.code ?_
      refine TC.k ?_
      refine TC.region ?_
      refine TO.s rfl rfl rfl (StepS.ldB rfl (Ent.at 6 rfl) kscalB_50_true rfl) ?_
      refine TO.s rfl rfl rfl (StepS.move rfl) ?_
      obtain ⟨x44, hx45, hm⟩ := bind_some hm
      refine TO.s rfl rfl rfl (StepS.idxRR rfl rfl (SS.rr (Ent.at 1 rfl)) ksliceB_50_22_1_true hx45) ?_
      refine TO.s rfl rfl rfl (StepS.ldRR rfl (SS.rr (Ent.at 1 rfl)) kscalB_22_true hx45) ?_
      refine TO.s rfl rfl rfl (StepS.lenm rfl (RR.row (SS.rr (Ent.at 1 rfl)) hx45) ksliceB_22_3_1_true rfl) ?_
      refine TO.s rfl rfl rfl (StepS.cmp rfl rfl rfl) ?_
      refine TO.code ?_
      refine TC.cond rfl (fun hc47 => ?_) (fun hc47 => ?_)
      · replace hm := cond_t hc47 hm
        refine TC.region ?_
        refine TO.s rfl rfl rfl (StepS.ldB rfl (Ent.at 9 rfl) kscalB_136_true rfl) ?_
        refine TO.s rfl rfl rfl (StepS.move rfl) ?_
        refine TO.s rfl rfl rfl (StepS.move rfl) ?_
        refine TO.s rfl rfl rfl (StepS.build (cs := [I a0, I x28, I 0]) rfl (by kernel_rfl)) ?_
        refine TO.litS (f := cTiii) ([(a0, x28, 0)] : List (Int × Int × Int)) kelemB_136_138_3_24_true kinfo_138_bind_zero_some_agg_I_0_I_0_I_0 rfl rfl (fun _ => rfl) rfl rfl (by kernel_rfl) rfl fun v48 => ?_
        obtain ⟨y50, hk51, hm⟩ := bind_some hm
        refine TO.app (k := 11) (f := cTiii) kelemB_136_138_3_24_true (by decide) rfl rfl rfl (OwnS.rd (Ent.at 0 rfl)) hk51 (fun x c hc => by simp [Value.oneCell'] at hc ⊢; first | (obtain rfl := hc; rfl) | (rcases hc with rfl | rfl | rfl <;> rfl)) rfl rfl fun v52 => ?_
        refine TO.pure (fun _ s => Rd.one (OwnS.rd (Ent.at 11 rfl)) s) fun oc53 => ?_
        refine TO.stB (us := [v52]) 10 [v52] rfl rfl rfl ksizeB_136_1_true oc53.2 rfl rfl (by intro u hu; simp only [List.mem_cons, List.not_mem_nil, or_false] at hu; rcases hu with rfl <;> first | exact oc53.1 | rfl) rfl ?_
        cases hm
        refine TO.nil fun a w e s => ?_
        refine FRet.mk0 (P := Try.prog) (fn := Try.f85) e rfl ?_
        refine ⟨_, _, rfl, ⟨(h1_1), (h2_1), (h3_1), ((h3_2.set a0.toNat vq30_8_3)), (h4_1), (v52), rfl, rfl⟩, ?_⟩
        refine s.mono fun _ s => ?_
        exact Sat.by [11, 11, 11, 11, 6, 11, 11, 11, 11, 11] 10 2 (by kernel_rfl) s
      · replace hm := cond_f hc47 hm
        cases hm
        refine TC.skip fun a w e s => ?_
        refine FRet.mk0 (P := Try.prog) (fn := Try.f85) e rfl ?_
        refine ⟨_, _, rfl, ⟨(h1_1), (h2_1), (h3_1), ((h3_2.set a0.toNat vq30_8_3)), (h4_1), (v42), rfl, rfl⟩, ?_⟩
        refine s.mono fun _ s => ?_
        exact Sat.by [10, 10, 10, 10, 5, 10, 10, 10, 10, 10] 10 1 (by kernel_rfl) s

set_option maxRecDepth 100000 in
theorem C86 {B : World} {L : List HP} {a0 : Int} {a1 : Int} {a2 : List (List Int)} {a3 : List Int} {a4 : List (Int × Int × Int)} {a6 : List Bool} {a7 : List Bool} {b2_ : Nat} {h2_1 : Value} {h2_2 : List Value} {b3_ : Nat} {h3_1 : Value} {b4_ : Nat} {h4_1 : Value} {b5_ : Nat} {b6_ : Nat} {h6_1 : Value} {b7_ : Nat} {h7_1 : Value} {s0 : List (List Int)} {s1 : List Int} {s2 : List (Int × Int × Int)} {s3 : List Bool} {s4 : List Bool} (g5 : Ent L (Bx b5_ 139 [.func (.func 85) #[] #[.pointer (some ⟨b6_, 0, none⟩), .pointer (some ⟨b7_, 0, none⟩), .pointer (some ⟨b2_, 0, none⟩), .pointer (some ⟨b3_, 0, none⟩), .pointer (some ⟨b4_, 0, none⟩)]])) (hm : F86 a0 a1 a2 a3 a4 a6 a7 = some (s0, s1, s2, s3, s4)) {w : World} (st : St B (Bx b2_ 50 [h2_1] :: SS 22 3 1 cI h2_1 h2_2 (a2) :: Bx b3_ 22 [h3_1] :: OwnS 3 1 h3_1 (a3.map cI) :: Bx b4_ 136 [h4_1] :: OwnS 138 3 h4_1 (a4.map cTiii) :: Bx b6_ 115 [h6_1] :: OwnS 4 1 h6_1 (a6.map cB) :: Bx b7_ 115 [h7_1] :: OwnS 4 1 h7_1 (a7.map cB) :: L) w) : Calls Try.prog 86 #[I a0, I a1, .pointer (some ⟨b2_, 0, none⟩), .pointer (some ⟨b3_, 0, none⟩), .pointer (some ⟨b4_, 0, none⟩), .pointer (some ⟨b5_, 0, none⟩)] w (fun e w' => ∃ v M, e = .returned v ∧ (∃ (qv1 : Value) (qhs2 : List Value) (qv3 : Value) (qv4 : Value) (qv5 : Value) (qv6 : Value), v = .tuple #[] ∧ M = (Bx b2_ 50 [qv1] :: SS 22 3 1 cI qv1 qhs2 (s0) :: Bx b3_ 22 [qv3] :: OwnS 3 1 qv3 (s1.map cI) :: Bx b4_ 136 [qv4] :: OwnS 138 3 qv4 (s2.map cTiii) :: Bx b6_ 115 [qv5] :: OwnS 4 1 qv5 (s3.map cB) :: Bx b7_ 115 [qv6] :: OwnS 4 1 qv6 (s4.map cB) :: L)) ∧ St B M w') := by
  refine calls_of (N := 44) (L := (Bx b2_ 50 [h2_1] :: SS 22 3 1 cI h2_1 h2_2 (a2) :: Bx b3_ 22 [h3_1] :: OwnS 3 1 h3_1 (a3.map cI) :: Bx b4_ 136 [h4_1] :: OwnS 138 3 h4_1 (a4.map cTiii) :: Bx b6_ 115 [h6_1] :: OwnS 4 1 h6_1 (a6.map cB) :: Bx b7_ 115 [h7_1] :: OwnS 4 1 h7_1 (a7.map cB) :: L)) (args := [I a0, I a1, .pointer (some ⟨b2_, 0, none⟩), .pointer (some ⟨b3_, 0, none⟩), .pointer (some ⟨b4_, 0, none⟩), .pointer (some ⟨b5_, 0, none⟩)]) Try.func86 rfl rfl rfl ?_ st
  dsimp only [F86] at hm
  refine TC.k ?_
  obtain ⟨y12, hj14, hm⟩ := bind_some hm
  first | refine TC.cutM (fun a w => ∃ hs13 : List Value, Mid 44 B [(0, I a0), (2, .pointer (some ⟨b2_, 0, none⟩)), (3, .pointer (some ⟨b3_, 0, none⟩)), (4, .pointer (some ⟨b4_, 0, none⟩)), (5, .pointer (some ⟨b5_, 0, none⟩))] (Bx b2_ 50 [h2_1] :: SS 22 3 1 cI h2_1 hs13 (y12) :: Bx b3_ 22 [h3_1] :: OwnS 3 1 h3_1 (a3.map cI) :: Bx b4_ 136 [h4_1] :: OwnS 138 3 h4_1 (a4.map cTiii) :: Bx b6_ 115 [h6_1] :: OwnS 4 1 h6_1 (a6.map cB) :: Bx b7_ 115 [h7_1] :: OwnS 4 1 h7_1 (a7.map cB) :: L) a w) ?_ ?_ | refine TC.cutX (fun a w => ∃ hs13 : List Value, Mid 44 B [(0, I a0), (2, .pointer (some ⟨b2_, 0, none⟩)), (3, .pointer (some ⟨b3_, 0, none⟩)), (4, .pointer (some ⟨b4_, 0, none⟩)), (5, .pointer (some ⟨b5_, 0, none⟩))] (Bx b2_ 50 [h2_1] :: SS 22 3 1 cI h2_1 hs13 (y12) :: Bx b3_ 22 [h3_1] :: OwnS 3 1 h3_1 (a3.map cI) :: Bx b4_ 136 [h4_1] :: OwnS 138 3 h4_1 (a4.map cTiii) :: Bx b6_ 115 [h6_1] :: OwnS 4 1 h6_1 (a6.map cB) :: Bx b7_ 115 [h7_1] :: OwnS 4 1 h7_1 (a7.map cB) :: L) a w) ?_ ?_
  · obtain ⟨xq11_4_1, hxq11_4_2, hj14⟩ := bind_some hj14
    obtain ⟨yq11_8_2, hkq11_8_3, hj14⟩ := bind_some hj14
    obtain ⟨xq11_9_1, hxq11_9_2, hj14⟩ := bind_some hj14
    refine TC.region_any (Bx b2_ 50 [h2_1] :: Bx b3_ 22 [h3_1] :: OwnS 3 1 h3_1 (a3.map cI) :: Bx b4_ 136 [h4_1] :: OwnS 138 3 h4_1 (a4.map cTiii) :: Bx b6_ 115 [h6_1] :: OwnS 4 1 h6_1 (a6.map cB) :: Bx b7_ 115 [h7_1] :: OwnS 4 1 h7_1 (a7.map cB) :: L) 10 11 kfollows_mixedOrders_true rfl ?_
    refine TA.take 0 rfl rfl rfl rfl (StepS.ldB rfl (Ent.at 0 rfl) kscalB_50_true rfl) (by kernel_rfl) (by kernel_rfl) (by kernel_rfl) (by kernel_rfl) (by kernel_rfl) (fun _ s => Sat.by [9, 9, 9, 9, 9, 9, 9, 9, 8] 9 1 (by kernel_rfl) s) ?_
    refine TA.takeW 1 rfl rfl rfl rfl (StepS.move rfl) (by kernel_rfl) (by kernel_rfl) (by kernel_rfl) rfl (.inr (fun _ s => Sat.by [9, 9, 9, 9, 9, 9, 9, 9, 8] 9 1 (by kernel_rfl) s)) ?_
    refine TA.take 2 rfl rfl rfl rfl (StepS.ldB rfl (Ent.at 0 rfl) kscalB_50_true rfl) (by kernel_rfl) (by kernel_rfl) (by kernel_rfl) (by kernel_rfl) (by kernel_rfl) (fun _ s => Sat.by [9, 9, 9, 9, 9, 9, 9, 9, 8] 9 1 (by kernel_rfl) s) ?_
    refine TA.takeW 3 rfl rfl rfl rfl (StepS.move rfl) (by kernel_rfl) (by kernel_rfl) (by kernel_rfl) rfl (.inr (fun _ s => Sat.by [9, 9, 9, 9, 9, 9, 9, 9, 8] 9 1 (by kernel_rfl) s)) ?_
    refine TA.takeW 6 rfl rfl rfl rfl (StepS.move rfl) (by kernel_rfl) (by kernel_rfl) (by kernel_rfl) rfl (.inr (fun _ s => Sat.by [9, 9, 9, 9, 9, 9, 9, 9, 8] 9 1 (by kernel_rfl) s)) ?_
    refine TA.all2 (i := 4) (j := 7) (by kernel_rfl) ?_ ?_
    · refine TB.of rfl ?_
      refine TO.s rfl rfl rfl (StepS.idxRR rfl rfl (SS.rr (Ent.at 1 rfl)) ksliceB_50_22_1_true hxq11_4_2) ?_
      refine TA.back (.inr (fun _ s => Sat.by [9, 9, 9, 9, 9, 9, 9, 9, 8] 9 1 (by kernel_rfl) s)) ?_
      refine TA.asL (L' := (Bx b2_ 50 [h2_1] :: SS 22 3 1 cI h2_1 h2_2 (a2) :: Bx b3_ 22 [h3_1] :: OwnS 3 1 h3_1 (a3.map cI) :: Bx b4_ 136 [h4_1] :: OwnS 138 3 h4_1 (a4.map cTiii) :: Bx b6_ 115 [h6_1] :: OwnS 4 1 h6_1 (a6.map cB) :: Bx b7_ 115 [h7_1] :: OwnS 4 1 h7_1 (a7.map cB) :: L)) (listed' := #[true, true, true, true, true, false, true, false, false, false, false]) (by kernel_rfl) (by kernel_rfl) ?_
      refine TA.all2 (i := 5) (j := 7) (by kernel_rfl) ?_ ?_
      · refine TB.of rfl ?_
        refine TO.s rfl rfl rfl (StepS.ldRR rfl (SS.rr (Ent.at 1 rfl)) kscalB_22_true hxq11_4_2) ?_
        refine TA.back (.inr (fun _ s => Sat.by [9, 9, 9, 9, 9, 9, 9, 9, 8] 9 1 (by kernel_rfl) s)) ?_
        refine TA.asL (L' := (Bx b2_ 50 [h2_1] :: SS 22 3 1 cI h2_1 h2_2 (a2) :: Bx b3_ 22 [h3_1] :: OwnS 3 1 h3_1 (a3.map cI) :: Bx b4_ 136 [h4_1] :: OwnS 138 3 h4_1 (a4.map cTiii) :: Bx b6_ 115 [h6_1] :: OwnS 4 1 h6_1 (a6.map cB) :: Bx b7_ 115 [h7_1] :: OwnS 4 1 h7_1 (a7.map cB) :: L)) (listed' := #[true, true, true, true, true, true, true, false, false, false, false]) (by kernel_rfl) (by kernel_rfl) ?_
        refine TA.all1 (i := 7) (by kernel_rfl) ?_
        refine TB.of rfl ?_
        refine TO.litS (f := cI) ([a1] : List Int) kelemB_22_3_1_8_true kinfo_3_bind_zero_some_I_0 rfl rfl (fun _ => rfl) rfl rfl (by kernel_rfl) rfl fun vq11_7_1 => ?_
        refine TA.back (.inr (fun _ s => Sat.by [10, 10, 10, 10, 10, 10, 10, 10, 9] 9 2 (by kernel_rfl) s)) ?_
        refine TA.asL (L' := (OwnS 3 1 vq11_7_1 (([a1] : List Int).map cI) :: Bx b2_ 50 [h2_1] :: SS 22 3 1 cI h2_1 h2_2 (a2) :: Bx b3_ 22 [h3_1] :: OwnS 3 1 h3_1 (a3.map cI) :: Bx b4_ 136 [h4_1] :: OwnS 138 3 h4_1 (a4.map cTiii) :: Bx b6_ 115 [h6_1] :: OwnS 4 1 h6_1 (a6.map cB) :: Bx b7_ 115 [h7_1] :: OwnS 4 1 h7_1 (a7.map cB) :: L)) (listed' := #[true, true, true, true, true, true, true, true, false, false, false]) (by kernel_rfl) (by kernel_rfl) ?_
        refine TA.all1 (i := 8) (by kernel_rfl) ?_
        refine TB.of rfl ?_
        refine TO.ghost (fun _ s => Sat.front 2 rfl s) ?_
        refine TO.ghost (fun _ s => Sat.openRow hxq11_4_2 s) ?_
        refine TO.app (k := 0) (f := cI) kelemB_22_3_1_8_true (by decide) rfl rfl rfl (OwnS.rd (Ent.at 2 rfl)) hkq11_8_3 (fun x c hc => by simp [Value.oneCell'] at hc ⊢; first | (obtain rfl := hc; rfl) | (rcases hc with rfl <;> rfl)) rfl rfl fun vq11_8_4 => ?_
        refine TA.back (.inr (fun _ s => Sat.by [11, 11, 11, 11, 11, 11, 11, 11, 11] 9 3 (by kernel_rfl) s)) ?_
        refine TA.asL (L' := (OwnS 3 1 vq11_8_4 (yq11_8_2.map cI) :: SSh 22 3 1 cI h2_1 h2_2 (a2) a0.toNat :: OwnS 3 1 vq11_7_1 (([a1] : List Int).map cI) :: Bx b2_ 50 [h2_1] :: Bx b3_ 22 [h3_1] :: OwnS 3 1 h3_1 (a3.map cI) :: Bx b4_ 136 [h4_1] :: OwnS 138 3 h4_1 (a4.map cTiii) :: Bx b6_ 115 [h6_1] :: OwnS 4 1 h6_1 (a6.map cB) :: Bx b7_ 115 [h7_1] :: OwnS 4 1 h7_1 (a7.map cB) :: L)) (listed' := #[true, true, true, true, true, true, true, true, true, false, false]) (by kernel_rfl) (by kernel_rfl) ?_
        refine TA.all1 (i := 9) (by kernel_rfl) ?_
        refine TB.of rfl ?_
        refine TO.s rfl rfl rfl (StepS.idxRH rfl rfl (Ent.at 1 rfl) ksliceB_50_22_1_true hxq11_9_2) ?_
        refine TA.back (.inr (fun _ s => Sat.by [11, 11, 11, 11, 11, 11, 11, 11, 11] 9 3 (by kernel_rfl) s)) ?_
        refine TA.asL (L' := (OwnS 3 1 vq11_8_4 (yq11_8_2.map cI) :: SSh 22 3 1 cI h2_1 h2_2 (a2) a0.toNat :: OwnS 3 1 vq11_7_1 (([a1] : List Int).map cI) :: Bx b2_ 50 [h2_1] :: Bx b3_ 22 [h3_1] :: OwnS 3 1 h3_1 (a3.map cI) :: Bx b4_ 136 [h4_1] :: OwnS 138 3 h4_1 (a4.map cTiii) :: Bx b6_ 115 [h6_1] :: OwnS 4 1 h6_1 (a6.map cB) :: Bx b7_ 115 [h7_1] :: OwnS 4 1 h7_1 (a7.map cB) :: L)) (listed' := #[true, true, true, true, true, true, true, true, true, true, false]) (by kernel_rfl) (by kernel_rfl) ?_
        refine TA.all1 (i := 10) (by kernel_rfl) ?_
        refine TB.of rfl ?_
        refine TO.ghost (fun _ s => Sat.front 1 rfl s) ?_
        refine TO.stRowH (xs := yq11_8_2) rfl rfl hxq11_9_2 ksizeB_22_1_true ?_
        refine TA.back (.inl (by kernel_rfl)) ?_
        refine TA.asL (L' := (SS 22 3 1 cI h2_1 (h2_2.set a0.toNat vq11_8_4) (a2.set a0.toNat yq11_8_2) :: OwnS 3 1 vq11_7_1 (([a1] : List Int).map cI) :: Bx b2_ 50 [h2_1] :: Bx b3_ 22 [h3_1] :: OwnS 3 1 h3_1 (a3.map cI) :: Bx b4_ 136 [h4_1] :: OwnS 138 3 h4_1 (a4.map cTiii) :: Bx b6_ 115 [h6_1] :: OwnS 4 1 h6_1 (a6.map cB) :: Bx b7_ 115 [h7_1] :: OwnS 4 1 h7_1 (a7.map cB) :: L)) (listed' := #[true, true, true, true, true, true, true, true, true, true, true]) (by kernel_rfl) (by kernel_rfl) ?_
        cases hj14
        refine TA.nil (by kernel_rfl) fun a w e s => ?_
        exact ⟨(h2_2.set a0.toNat vq11_8_4), e.sub (lk_of_allIn ⟨rfl, rfl, rfl, rfl, rfl, trivial⟩), s.mono fun _ s => (by exact Sat.by [10, 10, 10, 10, 10, 10, 10, 10, 8, 10] 10 1 (by kernel_rfl) s)⟩
      · refine TB.of rfl ?_
        refine TO.litS (f := cI) ([a1] : List Int) kelemB_22_3_1_8_true kinfo_3_bind_zero_some_I_0 rfl rfl (fun _ => rfl) rfl rfl (by kernel_rfl) rfl fun vq11_7_1 => ?_
        refine TA.back (.inr (fun _ s => Sat.by [10, 10, 10, 10, 10, 10, 10, 10, 9] 9 2 (by kernel_rfl) s)) ?_
        refine TA.asL (L' := (OwnS 3 1 vq11_7_1 (([a1] : List Int).map cI) :: Bx b2_ 50 [h2_1] :: SS 22 3 1 cI h2_1 h2_2 (a2) :: Bx b3_ 22 [h3_1] :: OwnS 3 1 h3_1 (a3.map cI) :: Bx b4_ 136 [h4_1] :: OwnS 138 3 h4_1 (a4.map cTiii) :: Bx b6_ 115 [h6_1] :: OwnS 4 1 h6_1 (a6.map cB) :: Bx b7_ 115 [h7_1] :: OwnS 4 1 h7_1 (a7.map cB) :: L)) (listed' := #[true, true, true, true, true, false, true, true, false, false, false]) (by kernel_rfl) (by kernel_rfl) ?_
        refine TA.all1 (i := 5) (by kernel_rfl) ?_
        refine TB.of rfl ?_
        refine TO.s rfl rfl rfl (StepS.ldRR rfl (SS.rr (Ent.at 2 rfl)) kscalB_22_true hxq11_4_2) ?_
        refine TA.back (.inr (fun _ s => Sat.by [10, 10, 10, 10, 10, 10, 10, 10, 9] 9 2 (by kernel_rfl) s)) ?_
        refine TA.asL (L' := (OwnS 3 1 vq11_7_1 (([a1] : List Int).map cI) :: Bx b2_ 50 [h2_1] :: SS 22 3 1 cI h2_1 h2_2 (a2) :: Bx b3_ 22 [h3_1] :: OwnS 3 1 h3_1 (a3.map cI) :: Bx b4_ 136 [h4_1] :: OwnS 138 3 h4_1 (a4.map cTiii) :: Bx b6_ 115 [h6_1] :: OwnS 4 1 h6_1 (a6.map cB) :: Bx b7_ 115 [h7_1] :: OwnS 4 1 h7_1 (a7.map cB) :: L)) (listed' := #[true, true, true, true, true, true, true, true, false, false, false]) (by kernel_rfl) (by kernel_rfl) ?_
        refine TA.all1 (i := 8) (by kernel_rfl) ?_
        refine TB.of rfl ?_
        refine TO.ghost (fun _ s => Sat.front 2 rfl s) ?_
        refine TO.ghost (fun _ s => Sat.openRow hxq11_4_2 s) ?_
        refine TO.app (k := 0) (f := cI) kelemB_22_3_1_8_true (by decide) rfl rfl rfl (OwnS.rd (Ent.at 2 rfl)) hkq11_8_3 (fun x c hc => by simp [Value.oneCell'] at hc ⊢; first | (obtain rfl := hc; rfl) | (rcases hc with rfl <;> rfl)) rfl rfl fun vq11_8_4 => ?_
        refine TA.back (.inr (fun _ s => Sat.by [11, 11, 11, 11, 11, 11, 11, 11, 11] 9 3 (by kernel_rfl) s)) ?_
        refine TA.asL (L' := (OwnS 3 1 vq11_8_4 (yq11_8_2.map cI) :: SSh 22 3 1 cI h2_1 h2_2 (a2) a0.toNat :: OwnS 3 1 vq11_7_1 (([a1] : List Int).map cI) :: Bx b2_ 50 [h2_1] :: Bx b3_ 22 [h3_1] :: OwnS 3 1 h3_1 (a3.map cI) :: Bx b4_ 136 [h4_1] :: OwnS 138 3 h4_1 (a4.map cTiii) :: Bx b6_ 115 [h6_1] :: OwnS 4 1 h6_1 (a6.map cB) :: Bx b7_ 115 [h7_1] :: OwnS 4 1 h7_1 (a7.map cB) :: L)) (listed' := #[true, true, true, true, true, true, true, true, true, false, false]) (by kernel_rfl) (by kernel_rfl) ?_
        refine TA.all1 (i := 9) (by kernel_rfl) ?_
        refine TB.of rfl ?_
        refine TO.s rfl rfl rfl (StepS.idxRH rfl rfl (Ent.at 1 rfl) ksliceB_50_22_1_true hxq11_9_2) ?_
        refine TA.back (.inr (fun _ s => Sat.by [11, 11, 11, 11, 11, 11, 11, 11, 11] 9 3 (by kernel_rfl) s)) ?_
        refine TA.asL (L' := (OwnS 3 1 vq11_8_4 (yq11_8_2.map cI) :: SSh 22 3 1 cI h2_1 h2_2 (a2) a0.toNat :: OwnS 3 1 vq11_7_1 (([a1] : List Int).map cI) :: Bx b2_ 50 [h2_1] :: Bx b3_ 22 [h3_1] :: OwnS 3 1 h3_1 (a3.map cI) :: Bx b4_ 136 [h4_1] :: OwnS 138 3 h4_1 (a4.map cTiii) :: Bx b6_ 115 [h6_1] :: OwnS 4 1 h6_1 (a6.map cB) :: Bx b7_ 115 [h7_1] :: OwnS 4 1 h7_1 (a7.map cB) :: L)) (listed' := #[true, true, true, true, true, true, true, true, true, true, false]) (by kernel_rfl) (by kernel_rfl) ?_
        refine TA.all1 (i := 10) (by kernel_rfl) ?_
        refine TB.of rfl ?_
        refine TO.ghost (fun _ s => Sat.front 1 rfl s) ?_
        refine TO.stRowH (xs := yq11_8_2) rfl rfl hxq11_9_2 ksizeB_22_1_true ?_
        refine TA.back (.inl (by kernel_rfl)) ?_
        refine TA.asL (L' := (SS 22 3 1 cI h2_1 (h2_2.set a0.toNat vq11_8_4) (a2.set a0.toNat yq11_8_2) :: OwnS 3 1 vq11_7_1 (([a1] : List Int).map cI) :: Bx b2_ 50 [h2_1] :: Bx b3_ 22 [h3_1] :: OwnS 3 1 h3_1 (a3.map cI) :: Bx b4_ 136 [h4_1] :: OwnS 138 3 h4_1 (a4.map cTiii) :: Bx b6_ 115 [h6_1] :: OwnS 4 1 h6_1 (a6.map cB) :: Bx b7_ 115 [h7_1] :: OwnS 4 1 h7_1 (a7.map cB) :: L)) (listed' := #[true, true, true, true, true, true, true, true, true, true, true]) (by kernel_rfl) (by kernel_rfl) ?_
        cases hj14
        refine TA.nil (by kernel_rfl) fun a w e s => ?_
        exact ⟨(h2_2.set a0.toNat vq11_8_4), e.sub (lk_of_allIn ⟨rfl, rfl, rfl, rfl, rfl, trivial⟩), s.mono fun _ s => (by exact Sat.by [10, 10, 10, 10, 10, 10, 10, 10, 8, 10] 10 1 (by kernel_rfl) s)⟩
    · refine TB.of rfl ?_
      refine TO.litS (f := cI) ([a1] : List Int) kelemB_22_3_1_8_true kinfo_3_bind_zero_some_I_0 rfl rfl (fun _ => rfl) rfl rfl (by kernel_rfl) rfl fun vq11_7_1 => ?_
      refine TA.back (.inr (fun _ s => Sat.by [10, 10, 10, 10, 10, 10, 10, 10, 9] 9 2 (by kernel_rfl) s)) ?_
      refine TA.asL (L' := (OwnS 3 1 vq11_7_1 (([a1] : List Int).map cI) :: Bx b2_ 50 [h2_1] :: SS 22 3 1 cI h2_1 h2_2 (a2) :: Bx b3_ 22 [h3_1] :: OwnS 3 1 h3_1 (a3.map cI) :: Bx b4_ 136 [h4_1] :: OwnS 138 3 h4_1 (a4.map cTiii) :: Bx b6_ 115 [h6_1] :: OwnS 4 1 h6_1 (a6.map cB) :: Bx b7_ 115 [h7_1] :: OwnS 4 1 h7_1 (a7.map cB) :: L)) (listed' := #[true, true, true, true, false, false, true, true, false, false, false]) (by kernel_rfl) (by kernel_rfl) ?_
      refine TA.all1 (i := 4) (by kernel_rfl) ?_
      refine TB.of rfl ?_
      refine TO.s rfl rfl rfl (StepS.idxRR rfl rfl (SS.rr (Ent.at 2 rfl)) ksliceB_50_22_1_true hxq11_4_2) ?_
      refine TA.back (.inr (fun _ s => Sat.by [10, 10, 10, 10, 10, 10, 10, 10, 9] 9 2 (by kernel_rfl) s)) ?_
      refine TA.asL (L' := (OwnS 3 1 vq11_7_1 (([a1] : List Int).map cI) :: Bx b2_ 50 [h2_1] :: SS 22 3 1 cI h2_1 h2_2 (a2) :: Bx b3_ 22 [h3_1] :: OwnS 3 1 h3_1 (a3.map cI) :: Bx b4_ 136 [h4_1] :: OwnS 138 3 h4_1 (a4.map cTiii) :: Bx b6_ 115 [h6_1] :: OwnS 4 1 h6_1 (a6.map cB) :: Bx b7_ 115 [h7_1] :: OwnS 4 1 h7_1 (a7.map cB) :: L)) (listed' := #[true, true, true, true, true, false, true, true, false, false, false]) (by kernel_rfl) (by kernel_rfl) ?_
      refine TA.all1 (i := 5) (by kernel_rfl) ?_
      refine TB.of rfl ?_
      refine TO.s rfl rfl rfl (StepS.ldRR rfl (SS.rr (Ent.at 2 rfl)) kscalB_22_true hxq11_4_2) ?_
      refine TA.back (.inr (fun _ s => Sat.by [10, 10, 10, 10, 10, 10, 10, 10, 9] 9 2 (by kernel_rfl) s)) ?_
      refine TA.asL (L' := (OwnS 3 1 vq11_7_1 (([a1] : List Int).map cI) :: Bx b2_ 50 [h2_1] :: SS 22 3 1 cI h2_1 h2_2 (a2) :: Bx b3_ 22 [h3_1] :: OwnS 3 1 h3_1 (a3.map cI) :: Bx b4_ 136 [h4_1] :: OwnS 138 3 h4_1 (a4.map cTiii) :: Bx b6_ 115 [h6_1] :: OwnS 4 1 h6_1 (a6.map cB) :: Bx b7_ 115 [h7_1] :: OwnS 4 1 h7_1 (a7.map cB) :: L)) (listed' := #[true, true, true, true, true, true, true, true, false, false, false]) (by kernel_rfl) (by kernel_rfl) ?_
      refine TA.all1 (i := 8) (by kernel_rfl) ?_
      refine TB.of rfl ?_
      refine TO.ghost (fun _ s => Sat.front 2 rfl s) ?_
      refine TO.ghost (fun _ s => Sat.openRow hxq11_4_2 s) ?_
      refine TO.app (k := 0) (f := cI) kelemB_22_3_1_8_true (by decide) rfl rfl rfl (OwnS.rd (Ent.at 2 rfl)) hkq11_8_3 (fun x c hc => by simp [Value.oneCell'] at hc ⊢; first | (obtain rfl := hc; rfl) | (rcases hc with rfl <;> rfl)) rfl rfl fun vq11_8_4 => ?_
      refine TA.back (.inr (fun _ s => Sat.by [11, 11, 11, 11, 11, 11, 11, 11, 11] 9 3 (by kernel_rfl) s)) ?_
      refine TA.asL (L' := (OwnS 3 1 vq11_8_4 (yq11_8_2.map cI) :: SSh 22 3 1 cI h2_1 h2_2 (a2) a0.toNat :: OwnS 3 1 vq11_7_1 (([a1] : List Int).map cI) :: Bx b2_ 50 [h2_1] :: Bx b3_ 22 [h3_1] :: OwnS 3 1 h3_1 (a3.map cI) :: Bx b4_ 136 [h4_1] :: OwnS 138 3 h4_1 (a4.map cTiii) :: Bx b6_ 115 [h6_1] :: OwnS 4 1 h6_1 (a6.map cB) :: Bx b7_ 115 [h7_1] :: OwnS 4 1 h7_1 (a7.map cB) :: L)) (listed' := #[true, true, true, true, true, true, true, true, true, false, false]) (by kernel_rfl) (by kernel_rfl) ?_
      refine TA.all1 (i := 9) (by kernel_rfl) ?_
      refine TB.of rfl ?_
      refine TO.s rfl rfl rfl (StepS.idxRH rfl rfl (Ent.at 1 rfl) ksliceB_50_22_1_true hxq11_9_2) ?_
      refine TA.back (.inr (fun _ s => Sat.by [11, 11, 11, 11, 11, 11, 11, 11, 11] 9 3 (by kernel_rfl) s)) ?_
      refine TA.asL (L' := (OwnS 3 1 vq11_8_4 (yq11_8_2.map cI) :: SSh 22 3 1 cI h2_1 h2_2 (a2) a0.toNat :: OwnS 3 1 vq11_7_1 (([a1] : List Int).map cI) :: Bx b2_ 50 [h2_1] :: Bx b3_ 22 [h3_1] :: OwnS 3 1 h3_1 (a3.map cI) :: Bx b4_ 136 [h4_1] :: OwnS 138 3 h4_1 (a4.map cTiii) :: Bx b6_ 115 [h6_1] :: OwnS 4 1 h6_1 (a6.map cB) :: Bx b7_ 115 [h7_1] :: OwnS 4 1 h7_1 (a7.map cB) :: L)) (listed' := #[true, true, true, true, true, true, true, true, true, true, false]) (by kernel_rfl) (by kernel_rfl) ?_
      refine TA.all1 (i := 10) (by kernel_rfl) ?_
      refine TB.of rfl ?_
      refine TO.ghost (fun _ s => Sat.front 1 rfl s) ?_
      refine TO.stRowH (xs := yq11_8_2) rfl rfl hxq11_9_2 ksizeB_22_1_true ?_
      refine TA.back (.inl (by kernel_rfl)) ?_
      refine TA.asL (L' := (SS 22 3 1 cI h2_1 (h2_2.set a0.toNat vq11_8_4) (a2.set a0.toNat yq11_8_2) :: OwnS 3 1 vq11_7_1 (([a1] : List Int).map cI) :: Bx b2_ 50 [h2_1] :: Bx b3_ 22 [h3_1] :: OwnS 3 1 h3_1 (a3.map cI) :: Bx b4_ 136 [h4_1] :: OwnS 138 3 h4_1 (a4.map cTiii) :: Bx b6_ 115 [h6_1] :: OwnS 4 1 h6_1 (a6.map cB) :: Bx b7_ 115 [h7_1] :: OwnS 4 1 h7_1 (a7.map cB) :: L)) (listed' := #[true, true, true, true, true, true, true, true, true, true, true]) (by kernel_rfl) (by kernel_rfl) ?_
      cases hj14
      refine TA.nil (by kernel_rfl) fun a w e s => ?_
      exact ⟨(h2_2.set a0.toNat vq11_8_4), e.sub (lk_of_allIn ⟨rfl, rfl, rfl, rfl, rfl, trivial⟩), s.mono fun _ s => (by exact Sat.by [10, 10, 10, 10, 10, 10, 10, 10, 8, 10] 10 1 (by kernel_rfl) s)⟩
  · intro a w ⟨hs13, he, hs⟩
    refine TC.use ?_ he hs
    refine TC.k ?_
    refine TC.k ?_
    refine TC.region ?_
    refine TO.s rfl rfl rfl (StepS.ldB rfl (Ent.at 0 rfl) kscalB_50_true rfl) ?_
    refine TO.s rfl rfl rfl (StepS.move rfl) ?_
    obtain ⟨x15, hx16, hm⟩ := bind_some hm
    refine TO.s rfl rfl rfl (StepS.idxRR rfl rfl (SS.rr (Ent.at 1 rfl)) ksliceB_50_22_1_true hx16) ?_
    refine TO.s rfl rfl rfl (StepS.ldRR rfl (SS.rr (Ent.at 1 rfl)) kscalB_22_true hx16) ?_
    refine TO.s rfl rfl rfl (StepS.lenm rfl (RR.row (SS.rr (Ent.at 1 rfl)) hx16) ksliceB_22_3_1_true rfl) ?_
    refine TO.s rfl rfl rfl (StepS.cmp rfl rfl rfl) ?_
    refine TO.s rfl rfl rfl (StepS.move rfl) ?_
    obtain ⟨b19, hj20, hm⟩ := bind_some hm
    refine TO.mid1 7 31 (.bool b19) ?_ ?_
    · refine bcase (((x15.length : Int) == 1)) (fun hb18 => ?_) (fun hb18 => ?_)
      · replace hj20 := cond_t hb18 hj20
        refine TO.sw rfl rfl rfl hb18 rfl rfl (StepS.ldB rfl (Ent.at 2 rfl) kscalB_22_true rfl) ?_
        refine TO.sw rfl rfl rfl hb18 rfl rfl (StepS.move rfl) ?_
        obtain ⟨x21, hx22, hj20⟩ := bind_some hj20
        refine TO.sw rfl rfl rfl hb18 rfl rfl (StepS.idx rfl rfl (OwnS.rd (Ent.at 3 rfl)) ksliceB_22_3_1_true (idx_spec hx22).1 (idxm_lt hx22)) ?_
        refine TO.sw rfl rfl rfl hb18 rfl rfl (StepS.ld0 rfl (OwnS.rd (Ent.at 3 rfl)) kscalB_3_true rfl (idxm hx22) rfl) ?_
        refine TO.sw rfl rfl rfl hb18 rfl rfl (StepS.move rfl) ?_
        refine TO.sw rfl rfl rfl hb18 rfl rfl (StepS.cmp rfl rfl rfl) ?_
        cases hj20
        refine TO.s rfl rfl rfl (StepS.pickT rfl hb18 rfl) ?_
        exact TO.up1 7 0 rfl rfl rfl rfl
      · replace hj20 := cond_f hb18 hj20
        cases hj20
        refine TO.skip rfl rfl rfl (skipF hb18) rfl rfl ?_
        refine TO.skip rfl rfl rfl (skipF hb18) rfl rfl ?_
        refine TO.skip rfl rfl rfl (skipF hb18) rfl rfl ?_
        refine TO.skip rfl rfl rfl (skipF hb18) rfl rfl ?_
        refine TO.skip rfl rfl rfl (skipF hb18) rfl rfl ?_
        refine TO.skip rfl rfl rfl (skipF hb18) rfl rfl ?_
        refine TO.s rfl rfl rfl (StepS.pickF rfl hb18 rfl) ?_
        exact TO.up1 7 0 rfl rfl rfl rfl
    refine TO.code ?_
    obtain ⟨y23, hj25, hm⟩ := bind_some hm
    first | refine TC.cutM (fun a w => ∃ v24 : Value, Mid 44 B [(0, I a0), (5, .pointer (some ⟨b5_, 0, none⟩))] (Bx b2_ 50 [h2_1] :: SS 22 3 1 cI h2_1 hs13 (y12) :: Bx b3_ 22 [h3_1] :: OwnS 3 1 h3_1 (a3.map cI) :: Bx b4_ 136 [v24] :: OwnS 138 3 v24 (y23.map cTiii) :: Bx b6_ 115 [h6_1] :: OwnS 4 1 h6_1 (a6.map cB) :: Bx b7_ 115 [h7_1] :: OwnS 4 1 h7_1 (a7.map cB) :: L) a w) ?_ ?_ | refine TC.cutX (fun a w => ∃ v24 : Value, Mid 44 B [(0, I a0), (5, .pointer (some ⟨b5_, 0, none⟩))] (Bx b2_ 50 [h2_1] :: SS 22 3 1 cI h2_1 hs13 (y12) :: Bx b3_ 22 [h3_1] :: OwnS 3 1 h3_1 (a3.map cI) :: Bx b4_ 136 [v24] :: OwnS 138 3 v24 (y23.map cTiii) :: Bx b6_ 115 [h6_1] :: OwnS 4 1 h6_1 (a6.map cB) :: Bx b7_ 115 [h7_1] :: OwnS 4 1 h7_1 (a7.map cB) :: L) a w) ?_ ?_
    · refine TC.cond rfl (fun hc26 => ?_) (fun hc26 => ?_)
      · replace hj25 := cond_t hc26 hj25
        refine TC.region_any (Bx b2_ 50 [h2_1] :: SS 22 3 1 cI h2_1 hs13 (y12) :: Bx b3_ 22 [h3_1] :: OwnS 3 1 h3_1 (a3.map cI) :: Bx b4_ 136 [h4_1] :: Bx b6_ 115 [h6_1] :: OwnS 4 1 h6_1 (a6.map cB) :: Bx b7_ 115 [h7_1] :: OwnS 4 1 h7_1 (a7.map cB) :: L) 9 10 kfollows_mixedOrders_true rfl ?_
        refine TA.take 0 rfl rfl rfl rfl (StepS.ldB rfl (Ent.at 4 rfl) kscalB_136_true rfl) (by kernel_rfl) (by kernel_rfl) (by kernel_rfl) (by kernel_rfl) (by kernel_rfl) (fun _ s => Sat.by [9, 9, 9, 9, 8, 8, 8, 8, 8] 9 1 (by kernel_rfl) s) ?_
        refine TA.takeW 1 rfl rfl rfl rfl (StepS.move rfl) (by kernel_rfl) (by kernel_rfl) (by kernel_rfl) rfl (.inr (fun _ s => Sat.by [9, 9, 9, 9, 8, 8, 8, 8, 8] 9 1 (by kernel_rfl) s)) ?_
        refine TA.take 2 rfl rfl rfl rfl (StepS.ldB rfl (Ent.at 2 rfl) kscalB_22_true rfl) (by kernel_rfl) (by kernel_rfl) (by kernel_rfl) (by kernel_rfl) (by kernel_rfl) (fun _ s => Sat.by [9, 9, 9, 9, 8, 8, 8, 8, 8] 9 1 (by kernel_rfl) s) ?_
        refine TA.takeW 3 rfl rfl rfl rfl (StepS.move rfl) (by kernel_rfl) (by kernel_rfl) (by kernel_rfl) rfl (.inr (fun _ s => Sat.by [9, 9, 9, 9, 8, 8, 8, 8, 8] 9 1 (by kernel_rfl) s)) ?_
        obtain ⟨xq27_4_1, hxq27_4_2, hj25⟩ := bind_some hj25
        refine TA.take 4 rfl rfl rfl rfl (StepS.idx rfl rfl (OwnS.rd (Ent.at 3 rfl)) ksliceB_22_3_1_true (idx_spec hxq27_4_2).1 (idxm_lt hxq27_4_2)) (by kernel_rfl) (by kernel_rfl) (by kernel_rfl) (by kernel_rfl) (by kernel_rfl) (fun _ s => Sat.by [9, 9, 9, 9, 8, 8, 8, 8, 8] 9 1 (by kernel_rfl) s) ?_
        refine TA.take 5 rfl rfl rfl rfl (StepS.ld0 rfl (OwnS.rd (Ent.at 3 rfl)) kscalB_3_true rfl (idxm hxq27_4_2) rfl) (by kernel_rfl) (by kernel_rfl) (by kernel_rfl) (by kernel_rfl) (by kernel_rfl) (fun _ s => Sat.by [9, 9, 9, 9, 8, 8, 8, 8, 8] 9 1 (by kernel_rfl) s) ?_
        refine TA.takeW 6 rfl rfl rfl rfl (StepS.build (cs := [I a0, I xq27_4_1, I 0]) rfl (by kernel_rfl)) (by kernel_rfl) (by kernel_rfl) (by kernel_rfl) rfl (.inr (fun _ s => Sat.by [9, 9, 9, 9, 8, 8, 8, 8, 8] 9 1 (by kernel_rfl) s)) ?_
        refine TA.all1 (i := 7) (by kernel_rfl) ?_
        refine TB.of rfl ?_
        refine TO.litS (f := cTiii) ([(a0, xq27_4_1, 0)] : List (Int × Int × Int)) kelemB_136_138_3_24_true kinfo_138_bind_zero_some_agg_I_0_I_0_I_0 rfl rfl (fun _ => rfl) rfl rfl (by kernel_rfl) rfl fun vq27_7_1 => ?_
        refine TA.back (.inr (fun _ s => Sat.by [10, 10, 10, 10, 9, 9, 9, 9, 9] 9 2 (by kernel_rfl) s)) ?_
        refine TA.asL (L' := (OwnS 138 3 vq27_7_1 (([(a0, xq27_4_1, 0)] : List (Int × Int × Int)).map cTiii) :: Bx b2_ 50 [h2_1] :: SS 22 3 1 cI h2_1 hs13 (y12) :: Bx b3_ 22 [h3_1] :: OwnS 3 1 h3_1 (a3.map cI) :: Bx b4_ 136 [h4_1] :: OwnS 138 3 h4_1 (a4.map cTiii) :: Bx b6_ 115 [h6_1] :: OwnS 4 1 h6_1 (a6.map cB) :: Bx b7_ 115 [h7_1] :: OwnS 4 1 h7_1 (a7.map cB) :: L)) (listed' := #[true, true, true, true, true, true, true, true, false, false]) (by kernel_rfl) (by kernel_rfl) ?_
        refine TA.all1 (i := 8) (by kernel_rfl) ?_
        refine TB.of rfl ?_
        obtain ⟨yq27_8_1, hkq27_8_2, hj25⟩ := bind_some hj25
        refine TO.app (k := 6) (f := cTiii) kelemB_136_138_3_24_true (by decide) rfl rfl rfl (OwnS.rd (Ent.at 0 rfl)) hkq27_8_2 (fun x c hc => by simp [Value.oneCell'] at hc ⊢; first | (obtain rfl := hc; rfl) | (rcases hc with rfl | rfl | rfl <;> rfl)) rfl rfl fun vq27_8_3 => ?_
        refine TA.back (.inr (fun _ s => Sat.by [10, 10, 10, 10, 9, 9, 9, 9, 9] 9 2 (by kernel_rfl) s)) ?_
        refine TA.asL (L' := (OwnS 138 3 vq27_7_1 (([(a0, xq27_4_1, 0)] : List (Int × Int × Int)).map cTiii) :: Bx b2_ 50 [h2_1] :: SS 22 3 1 cI h2_1 hs13 (y12) :: Bx b3_ 22 [h3_1] :: OwnS 3 1 h3_1 (a3.map cI) :: Bx b4_ 136 [h4_1] :: OwnS 138 3 vq27_8_3 (yq27_8_1.map cTiii) :: Bx b6_ 115 [h6_1] :: OwnS 4 1 h6_1 (a6.map cB) :: Bx b7_ 115 [h7_1] :: OwnS 4 1 h7_1 (a7.map cB) :: L)) (listed' := #[true, true, true, true, true, true, true, true, true, false]) (by kernel_rfl) (by kernel_rfl) ?_
        refine TA.all1 (i := 9) (by kernel_rfl) ?_
        refine TB.of rfl ?_
        refine TO.pure (fun _ s => Rd.one (OwnS.rd (Ent.at 6 rfl)) s) fun ocq27_9_1 => ?_
        refine TO.stB (us := [vq27_8_3]) 5 [vq27_8_3] rfl rfl rfl ksizeB_136_1_true ocq27_9_1.2 rfl rfl (by intro u hu; simp only [List.mem_cons, List.not_mem_nil, or_false] at hu; rcases hu with rfl <;> first | exact ocq27_9_1.1 | rfl) rfl ?_
        refine TA.back (.inl (by kernel_rfl)) ?_
        refine TA.asL (L' := (OwnS 138 3 vq27_7_1 (([(a0, xq27_4_1, 0)] : List (Int × Int × Int)).map cTiii) :: Bx b2_ 50 [h2_1] :: SS 22 3 1 cI h2_1 hs13 (y12) :: Bx b3_ 22 [h3_1] :: OwnS 3 1 h3_1 (a3.map cI) :: Bx b4_ 136 [vq27_8_3] :: OwnS 138 3 vq27_8_3 (yq27_8_1.map cTiii) :: Bx b6_ 115 [h6_1] :: OwnS 4 1 h6_1 (a6.map cB) :: Bx b7_ 115 [h7_1] :: OwnS 4 1 h7_1 (a7.map cB) :: L)) (listed' := #[true, true, true, true, true, true, true, true, true, true]) (by kernel_rfl) (by kernel_rfl) ?_
        cases hj25
        refine TA.nil (by kernel_rfl) fun a w e s => ?_
        exact ⟨vq27_8_3, e.sub (lk_of_allIn ⟨rfl, rfl, trivial⟩), s.mono fun _ => Sat.dropN 1⟩
      · replace hj25 := cond_f hc26 hj25
        cases hj25
        refine TC.skip fun a w e s => ?_
        exact ⟨h4_1, e.sub (lk_of_allIn ⟨rfl, rfl, trivial⟩), s⟩
    · intro a w ⟨v24, he, hs⟩
      refine TC.use ?_ he hs
      refine TC.region ?_
      refine TO.s rfl rfl rfl (StepS.ldB rfl g5.tl.tl.tl.tl.tl.tl.tl.tl.tl.tl kscalB_139_true rfl) ?_
      refine TO.s rfl rfl rfl (StepS.move rfl) ?_
      refine TO.ghost (fun _ s => Sat.front 5 rfl s) ?_
      refine TO.ghost (fun _ s => Sat.front 5 rfl s) ?_
      refine TO.ghost (fun _ s => Sat.front 5 rfl s) ?_
      refine TO.ghost (fun _ s => Sat.front 5 rfl s) ?_
      refine TO.ghost (fun _ s => Sat.front 5 rfl s) ?_
      refine TO.ghost (fun _ s => Sat.front 5 rfl s) ?_
      refine TO.ghost (fun _ s => Sat.front 9 rfl s) ?_
      refine TO.ghost (fun _ s => Sat.front 9 rfl s) ?_
      refine TO.ghost (fun _ s => Sat.front 9 rfl s) ?_
      refine TO.ghost (fun _ s => Sat.front 9 rfl s) ?_
      obtain ⟨⟨r28, r29, r30, r31, r32⟩, hc33, hm⟩ := bind_some hm
      refine TO.callOC kcallB_85_true rfl rfl rfl rfl (fun _ st => C85 (a1 := a6) (a2 := a7) (a3 := y12) (a4 := a3) (a5 := y23)  hc33 st) ?_
      rintro _ _ ⟨v34, v36, v38, hs39, v41, v43, rfl, rfl⟩
      cases hm
      refine TO.nil fun a w e s => ?_
      refine FRet.mk0 (P := Try.prog) (fn := Try.f86) e rfl ?_
      refine ⟨_, _, rfl, ⟨(v38), (hs39), (v41), (v43), (v34), (v36), rfl, rfl⟩, ?_⟩
      refine s.mono fun _ s => ?_
      exact Sat.by [3, 3, 3, 3, 9, 9, 9, 9, 9, 9] 10 0 (by kernel_rfl) s

set_option maxHeartbeats 4000000 in
set_option maxRecDepth 100000 in
theorem C48 {B : World} {L : List HP} {a0 : List Int} {a1 : List (Int × Int × Int × Int)} {h0 : Value} {h1 : Value} {r0 : (List Int) × (BitVec 32) × (BitVec 32) × Int} (e0 : Ent L (Rd 1 h0 (a0.map cI))) (e1 : Ent L (Rd 4 h1 (a1.map cTiiii))) (hm : F48 a0 a1 = some r0) {w : World} (st : St B L w) : Calls Try.prog 48 #[h0, h1] w (fun e w' => ∃ v M, e = .returned v ∧ (∃ (qv1 : Value), v = .agg #[qv1, U r0.2.1, U r0.2.2.1, I r0.2.2.2] ∧ M = (OwnS 28 1 qv1 (r0.1.map cI) :: L)) ∧ St B M w') := by
  refine calls_of (N := 201) (L := L) (args := [h0, h1]) Try.func48 rfl rfl rfl ?_ st
  dsimp only [F48] at hm
  refine TC.k ?_
  refine TC.region ?_
  refine TO.alloc kinfo_80_bind_zero_some_agg_slice_none_0_0_U_0_U_0_I_0 rfl rfl fun b2 => ?_
  refine TO.code ?_
  refine TC.k ?_
  refine TC.region ?_
  refine TO.s rfl rfl rfl (StepS.move rfl) ?_
  refine TO.s rfl rfl rfl (StepS.lenm rfl e0.tl ksliceB_22_3_1_true rfl) ?_
  refine TO.s rfl rfl rfl (StepS.assign rfl) ?_
  refine TO.code ?_
  refine TC.k ?_
  refine TC.region ?_
  refine TO.s rfl rfl rfl (StepS.build (cs := [.slice none 0 0, U 0, U 0, I 0]) rfl (by kernel_rfl)) ?_
  refine TO.alloc kinfo_80_bind_zero_some_agg_slice_none_0_0_U_0_U_0_I_0 rfl rfl fun b3 => ?_
  refine TO.stB (us := [.slice none 0 0, U 0, U 0, I 0]) 0 [.slice none 0 0, U 0, U 0, I 0] rfl rfl rfl ksizeB_80_4_true rfl rfl rfl (by simp [Value.oneCell']) rfl ?_
  refine TO.code ?_
  refine TC.k ?_
  refine TC.region ?_
  refine TO.lit0 (f := cI) ksliceB_22_3_1_true rfl fun v4 => ?_
  refine TO.s rfl rfl rfl (StepS.move rfl) ?_
  obtain ⟨y6, hk7, hm⟩ := bind_some hm
  refine TO.app (k := 0) (f := cI) kelemB_22_3_1_8_true (by decide) rfl rfl rfl e0.tl.tl.tl hk7 (fun x c hc => by simp [Value.oneCell'] at hc ⊢; first | (obtain rfl := hc; rfl) | (rcases hc with rfl <;> rfl)) rfl rfl fun v8 => ?_
  refine TO.alloc kinfo_22_bind_zero_some_slice_none_0_0 rfl rfl fun b9 => ?_
  refine TO.pure (fun _ s => Rd.one (OwnS.rd (Ent.at 1 rfl)) s) fun oc10 => ?_
  refine TO.stB (us := [v8]) 0 [v8] rfl rfl rfl ksizeB_22_1_true oc10.2 rfl rfl (by intro u hu; simp only [List.mem_cons, List.not_mem_nil, or_false] at hu; rcases hu with rfl <;> first | exact oc10.1 | rfl) rfl ?_
  refine TO.code ?_
  refine TC.k ?_
  refine TC.region ?_
  refine TO.s rfl rfl rfl (StepS.move rfl) ?_
  obtain ⟨y11, hk12, hm⟩ := bind_some hm
  refine TO.mkSSg (ee := 3) (sz := 1) (f := cI) kelemB_50_22_1_24_true kinfo_22_bind_zero_some_slice_none_0_0 rfl rfl hk12 rfl fun v13 hs14 => ?_
  refine TO.alloc kinfo_50_bind_zero_some_slice_none_0_0 rfl rfl fun b16 => ?_
  refine TO.pure (fun _ s => Rd.one (RR.top (SS.rr (Ent.at 1 rfl))) s) fun oc17 => ?_
  refine TO.stB (us := [v13]) 0 [v13] rfl rfl rfl ksizeB_50_1_true oc17.2 rfl rfl (by intro u hu; simp only [List.mem_cons, List.not_mem_nil, or_false] at hu; rcases hu with rfl <;> first | exact oc17.1 | rfl) rfl ?_
  refine TO.code ?_
  refine TC.k ?_
  refine TC.region ?_
  refine TO.s rfl rfl rfl (StepS.move rfl) ?_
  obtain ⟨y18, hk19, hm⟩ := bind_some hm
  refine TO.mkS (f := cB) (za := false) kelemB_115_4_1_1_true kinfo_4_bind_zero_some_bool_false rfl (by decide) rfl rfl hk19 rfl fun v20 => ?_
  refine TO.alloc kinfo_115_bind_zero_some_slice_none_0_0 rfl rfl fun b22 => ?_
  refine TO.pure (fun _ s => Rd.one (OwnS.rd (Ent.at 1 rfl)) s) fun oc23 => ?_
  refine TO.stB (us := [v20]) 0 [v20] rfl rfl rfl ksizeB_115_1_true oc23.2 rfl rfl (by intro u hu; simp only [List.mem_cons, List.not_mem_nil, or_false] at hu; rcases hu with rfl <;> first | exact oc23.1 | rfl) rfl ?_
  refine TO.code ?_
  refine TC.k ?_
  refine TC.region ?_
  refine TO.s rfl rfl rfl (StepS.move rfl) ?_
  obtain ⟨y24, hk25, hm⟩ := bind_some hm
  refine TO.mkS (f := cB) (za := false) kelemB_115_4_1_1_true kinfo_4_bind_zero_some_bool_false rfl (by decide) rfl rfl hk25 rfl fun v26 => ?_
  refine TO.alloc kinfo_115_bind_zero_some_slice_none_0_0 rfl rfl fun b28 => ?_
  refine TO.pure (fun _ s => Rd.one (OwnS.rd (Ent.at 1 rfl)) s) fun oc29 => ?_
  refine TO.stB (us := [v26]) 0 [v26] rfl rfl rfl ksizeB_115_1_true oc29.2 rfl rfl (by intro u hu; simp only [List.mem_cons, List.not_mem_nil, or_false] at hu; rcases hu with rfl <;> first | exact oc29.1 | rfl) rfl ?_
  refine TO.code ?_
  refine TC.k ?_
  refine TC.k ?_
  refine TC.region ?_
  refine TO.s rfl rfl rfl (StepS.assign rfl) ?_
  refine TO.code ?_
  obtain ⟨o35, hw36, hm⟩ := bind_some hm
  refine TC.loop hw36 (fun (y30, x31) => fun a w => Mid 201 B [(0, h0), (1, h1), (4, .pointer (some ⟨b2, 0, none⟩)), (5, I (a0.length : Int)), (6, .pointer (some ⟨b3, 0, none⟩)), (7, .pointer (some ⟨b9, 0, none⟩)), (8, .pointer (some ⟨b16, 0, none⟩)), (9, .pointer (some ⟨b22, 0, none⟩)), (10, .pointer (some ⟨b28, 0, none⟩)), (11, I x31)] (Bx b28 115 [v26] :: OwnS 4 1 v26 (y24.map cB) :: Bx b22 115 [v20] :: OwnS 4 1 v20 (y30.map cB) :: Bx b16 50 [v13] :: SS 22 3 1 cI v13 hs14 (y11) :: Bx b9 22 [v8] :: OwnS 3 1 v8 (y6.map cI) :: Bx b3 80 [.slice none 0 0, U 0, U 0, I 0] :: Bx b2 80 [.slice none 0 0, U 0, U 0, I 0] :: L) a w) (fun y34 => fun a w => Mid 201 B [(1, h1), (4, .pointer (some ⟨b2, 0, none⟩)), (5, I (a0.length : Int)), (6, .pointer (some ⟨b3, 0, none⟩)), (7, .pointer (some ⟨b9, 0, none⟩)), (8, .pointer (some ⟨b16, 0, none⟩)), (9, .pointer (some ⟨b22, 0, none⟩)), (10, .pointer (some ⟨b28, 0, none⟩))] (Bx b28 115 [v26] :: OwnS 4 1 v26 (y24.map cB) :: Bx b22 115 [v20] :: OwnS 4 1 v20 (y34.map cB) :: Bx b16 50 [v13] :: SS 22 3 1 cI v13 hs14 (y11) :: Bx b9 22 [v8] :: OwnS 3 1 v8 (y6.map cI) :: Bx b3 80 [.slice none 0 0, U 0, U 0, I 0] :: Bx b2 80 [.slice none 0 0, U 0, U 0, I 0] :: L) a w) (fun (_ : Unit) _ _ => False) ?_ ?_ ?_ ?_
  · rintro ⟨y30, x31⟩ o35r hb37 a w ⟨he, hs⟩
    dsimp only [F48_L0] at hb37
    refine TC.use ?_ he hs
    refine TC.k ?_
    refine TC.k ?_
    refine TC.region ?_
    refine TO.s rfl rfl rfl (StepS.move rfl) ?_
    refine TO.s rfl rfl rfl (StepS.move rfl) ?_
    refine TO.s rfl rfl rfl (StepS.cmp rfl rfl rfl) ?_
    refine TO.code ?_
    refine TC.cond rfl (fun hc38 => ?_) (fun hc38 => ?_)
    · replace hb37 := cond_t hc38 hb37
      refine TC.skipk ?_
      refine TC.k ?_
      refine TC.block ?_
      refine TC.region_tail 9 kfollows_mixedOrders_true (by kernel_rfl) ?_
      refine TS.s rfl rfl rfl (StepS.ldB rfl (Ent.at 2 rfl) kscalB_115_true rfl) ?_
      refine TS.s rfl rfl rfl (StepS.move rfl) ?_
      refine TS.s rfl rfl rfl (StepS.move rfl) ?_
      refine TS.s rfl rfl rfl (StepS.move rfl) ?_
      obtain ⟨x39, hx40, hb37⟩ := bind_some hb37
      refine TS.s rfl rfl rfl (StepS.idx rfl rfl e0.tl.tl.tl.tl.tl.tl.tl.tl.tl.tl ksliceB_22_3_1_true (idx_spec hx40).1 (idxm_lt hx40)) ?_
      refine TS.s rfl rfl rfl (StepS.ld0 rfl e0.tl.tl.tl.tl.tl.tl.tl.tl.tl.tl kscalB_3_true rfl (idxm hx40) rfl) ?_
      refine TS.s rfl rfl rfl (StepS.move rfl) ?_
      refine TS.s rfl rfl rfl (StepS.cmp rfl rfl rfl) ?_
      obtain ⟨x41, hx42, hb37⟩ := bind_some hb37
      refine TS.s rfl rfl rfl (StepS.idx rfl rfl (OwnS.rd (Ent.at 3 rfl)) ksliceB_115_4_1_true (idx_spec hx42).1 (idxm_lt hx42)) ?_
      refine TS.nil ?_
      refine TO.at ?_
      refine TO.stO (i := x31.toNat) (off := 0) (us := [.bool (x39 == x31)]) 3 (x39 == x31) rfl rfl rfl ksizeB_4_1_true rfl rfl rfl (idx_spec hx42).2 rfl (by simp [Value.oneCell']) rfl ?_
      refine TO.code ?_
      refine TC.region ?_
      refine TO.s rfl rfl rfl (StepS.move rfl) ?_
      refine TO.s rfl rfl rfl (StepS.ari rfl rfl rfl) ?_
      refine TO.s rfl rfl rfl (StepS.assign rfl) ?_
      cases hb37
      refine TO.nil fun a w e s => ?_
      exact ⟨e.sub (lk_of_allIn ⟨rfl, rfl, rfl, rfl, rfl, rfl, rfl, rfl, rfl, rfl, trivial⟩), s⟩
    · replace hb37 := cond_f hc38 hb37
      cases hb37
      refine TC.exit rfl fun a w e s => ?_
      exact ⟨e.sub (lk_of_allIn ⟨rfl, rfl, rfl, rfl, rfl, rfl, rfl, rfl, trivial⟩), s⟩
  · exact fun a w e s => ⟨e.sub (lk_of_allIn ⟨rfl, rfl, rfl, rfl, rfl, rfl, rfl, rfl, rfl, rfl, trivial⟩), s⟩
  · rintro y34 rfl a w ⟨he, hs⟩
    dsimp only [Ctl.on] at hm
    refine TC.use ?_ he hs
    refine TC.k ?_
    refine TC.region ?_
    refine TO.alloc kinfo_136_bind_zero_some_slice_none_0_0 rfl rfl fun b43 => ?_
    refine TO.code ?_
    refine TC.k ?_
    refine TC.region ?_
    refine TO.s rfl rfl rfl (StepS.mkfn rfl) ?_
    refine TO.alloc kinfo_139_bind_zero_some_nilFunc rfl rfl fun b44 => ?_
    refine TO.stB (us := [.func (.func 85) #[] #[.pointer (some ⟨b22, 0, none⟩), .pointer (some ⟨b28, 0, none⟩), .pointer (some ⟨b16, 0, none⟩), .pointer (some ⟨b9, 0, none⟩), .pointer (some ⟨b43, 0, none⟩)]]) 0 [.func (.func 85) #[] #[.pointer (some ⟨b22, 0, none⟩), .pointer (some ⟨b28, 0, none⟩), .pointer (some ⟨b16, 0, none⟩), .pointer (some ⟨b9, 0, none⟩), .pointer (some ⟨b43, 0, none⟩)]] rfl rfl rfl ksizeB_139_1_true rfl rfl rfl (by simp [Value.oneCell']) rfl ?_
    refine TO.code ?_
    refine TC.k ?_
    refine TC.region ?_
    refine TO.s rfl rfl rfl (StepS.mkfn rfl) ?_
    refine TO.s rfl rfl rfl (StepS.assign rfl) ?_
    refine TO.code ?_
    refine TC.k ?_
    refine TC.k ?_
    refine TC.region ?_
    refine TO.s rfl rfl rfl (StepS.move rfl) ?_
    refine TO.s rfl rfl rfl (StepS.lenm rfl e1.tl.tl.tl.tl.tl.tl.tl.tl.tl.tl.tl.tl ksliceB_23_106_4_true rfl) ?_
    refine TO.s rfl rfl rfl (StepS.move rfl) ?_
    refine TO.code ?_
    obtain ⟨o104, hw105, hm⟩ := bind_some hm
    refine TC.loop hw105 (fun (y47, y50, y53, y57, y60, y63, x64) => fun a w => ∃ v45 : Value, ∃ v48 : Value, ∃ v51 : Value, ∃ v54 : Value, ∃ hs55 : List Value, ∃ v58 : Value, ∃ v61 : Value, Mid 201 B [(4, .pointer (some ⟨b2, 0, none⟩)), (5, I (a0.length : Int)), (6, .pointer (some ⟨b3, 0, none⟩)), (7, .pointer (some ⟨b9, 0, none⟩)), (8, .pointer (some ⟨b16, 0, none⟩)), (9, .pointer (some ⟨b22, 0, none⟩)), (10, .pointer (some ⟨b28, 0, none⟩)), (12, .pointer (some ⟨b43, 0, none⟩)), (13, .pointer (some ⟨b44, 0, none⟩)), (14, .func (.func 86) #[] #[.pointer (some ⟨b16, 0, none⟩), .pointer (some ⟨b9, 0, none⟩), .pointer (some ⟨b43, 0, none⟩), .pointer (some ⟨b44, 0, none⟩)]), (49, h1), (50, I (a1.length : Int)), (51, I x64)] (OwnS 138 3 v45 (y47.map cTiii) :: OwnS 4 1 v48 (y50.map cB) :: OwnS 4 1 v51 (y53.map cB) :: SS 22 3 1 cI v54 hs55 (y57) :: OwnS 3 1 v58 (y60.map cI) :: OwnS 28 1 v61 (y63.map cI) :: Bx b44 139 [.func (.func 85) #[] #[.pointer (some ⟨b22, 0, none⟩), .pointer (some ⟨b28, 0, none⟩), .pointer (some ⟨b16, 0, none⟩), .pointer (some ⟨b9, 0, none⟩), .pointer (some ⟨b43, 0, none⟩)]] :: Bx b43 136 [v45] :: Bx b28 115 [v48] :: Bx b22 115 [v51] :: Bx b16 50 [v54] :: Bx b9 22 [v58] :: Bx b3 80 [v61, U 0, U 0, I 0] :: Bx b2 80 [.slice none 0 0, U 0, U 0, I 0] :: L) a w) (fun (y87, y90, y93, y97, y100, y103) => fun a w => ∃ v85 : Value, ∃ v88 : Value, ∃ v91 : Value, ∃ v94 : Value, ∃ hs95 : List Value, ∃ v98 : Value, ∃ v101 : Value, Mid 201 B [(4, .pointer (some ⟨b2, 0, none⟩)), (5, I (a0.length : Int)), (6, .pointer (some ⟨b3, 0, none⟩)), (8, .pointer (some ⟨b16, 0, none⟩)), (10, .pointer (some ⟨b28, 0, none⟩)), (12, .pointer (some ⟨b43, 0, none⟩))] (OwnS 138 3 v85 (y87.map cTiii) :: OwnS 4 1 v88 (y90.map cB) :: OwnS 4 1 v91 (y93.map cB) :: SS 22 3 1 cI v94 hs95 (y97) :: OwnS 3 1 v98 (y100.map cI) :: OwnS 28 1 v101 (y103.map cI) :: Bx b44 139 [.func (.func 85) #[] #[.pointer (some ⟨b22, 0, none⟩), .pointer (some ⟨b28, 0, none⟩), .pointer (some ⟨b16, 0, none⟩), .pointer (some ⟨b9, 0, none⟩), .pointer (some ⟨b43, 0, none⟩)]] :: Bx b43 136 [v85] :: Bx b28 115 [v88] :: Bx b22 115 [v91] :: Bx b16 50 [v94] :: Bx b9 22 [v98] :: Bx b3 80 [v101, U 0, U 0, I 0] :: Bx b2 80 [.slice none 0 0, U 0, U 0, I 0] :: L) a w) (fun (_ : Unit) _ _ => False) ?_ ?_ ?_ ?_
    · rintro ⟨y47, y50, y53, y57, y60, y63, x64⟩ o104r hb106 a w ⟨v45, v48, v51, v54, hs55, v58, v61, he, hs⟩
      dsimp only [F48_L1] at hb106
      refine TC.use ?_ he hs
      refine TC.k ?_
      refine TC.region ?_
      refine TO.s rfl rfl rfl (StepS.cmp rfl rfl rfl) ?_
      refine TO.code ?_
      refine TC.k ?_
      refine TC.cond rfl (fun hc107 => ?_) (fun hc107 => ?_)
      · replace hb106 := cond_t hc107 hb106
        refine TC.skipk ?_
        refine TC.k ?_
        refine TC.block ?_
        refine TC.k ?_
        refine TC.region ?_
        obtain ⟨x108, hx109, hb106⟩ := bind_some hb106
        refine TO.s rfl rfl rfl (StepS.idx rfl rfl e1.tl.tl.tl.tl.tl.tl.tl.tl.tl.tl.tl.tl.tl.tl ksliceB_23_106_4_true (idx_spec hx109).1 (idxm_lt hx109)) ?_
        refine TO.s rfl rfl rfl (StepS.ldE rfl e1.tl.tl.tl.tl.tl.tl.tl.tl.tl.tl.tl.tl.tl.tl kaggB_106_4_true rfl (idxm hx109)) ?_
        refine TO.alloc kinfo_106_bind_zero_some_agg_I_0_I_0_I_0_I_0 rfl rfl fun b110 => ?_
        refine TO.stB (us := [I x108.1, I x108.2.1, I x108.2.2.1, I x108.2.2.2]) 0 [I x108.1, I x108.2.1, I x108.2.2.1, I x108.2.2.2] rfl rfl rfl ksizeB_106_4_true rfl rfl rfl (by simp [Value.oneCell']) rfl ?_
        refine TO.code ?_
        refine TC.k ?_
        refine TC.region ?_
        refine TO.s rfl rfl rfl (StepS.assign rfl) ?_
        refine TO.code ?_
        refine TC.k ?_
        refine TC.region ?_
        refine TO.s rfl rfl rfl (StepS.ldB rfl (Ent.at 8 rfl) kscalB_136_true rfl) ?_
        refine TO.s rfl rfl rfl (StepS.fld rfl kfieldB_106_1_1_true) ?_
        refine TO.s rfl rfl rfl (StepS.ldB rfl (Ent.at 0 rfl) kscalB_3_true rfl) ?_
        refine TO.s rfl rfl rfl (StepS.fld rfl kfieldB_106_2_2_true) ?_
        refine TO.s rfl rfl rfl (StepS.ldB rfl (Ent.at 0 rfl) kscalB_3_true rfl) ?_
        obtain ⟨r111, hc112, hb106⟩ := bind_some hb106
        refine TO.q rfl rfl rfl (StepQ.call kcallB_61_true rfl rfl (fun _ st => C61 (OwnS.rd (Ent.at 1 rfl)) hc112 st)) ?_
        refine TO.s rfl rfl rfl (StepS.assign rfl) ?_
        refine TO.code ?_
        refine TC.k ?_
        refine TC.k ?_
        refine TC.region ?_
        refine TO.s rfl rfl rfl (StepS.fld rfl kfieldB_106_0_0_true) ?_
        refine TO.s rfl rfl rfl (StepS.ldB rfl (Ent.at 0 rfl) kscalB_3_true rfl) ?_
        refine TO.s rfl rfl rfl (StepS.cmp rfl rfl rfl) ?_
        refine TO.s rfl rfl rfl (StepS.move rfl) ?_
        refine TO.mid1 4 68 (.bool ((decide (x108.1 < 1)) || (decide (x108.1 > 3)))) ?_ ?_
        · refine bcase ((decide (x108.1 < 1))) (fun hb113 => ?_) (fun hb113 => ?_)
          · refine TO.skip rfl rfl rfl (skipT hb113) rfl rfl ?_
            refine TO.skip rfl rfl rfl (skipT hb113) rfl rfl ?_
            refine TO.skip rfl rfl rfl (skipT hb113) rfl rfl ?_
            refine TO.s rfl rfl rfl (StepS.pickT rfl hb113 rfl) ?_
            exact TO.up1 4 0 rfl rfl (by rw [hb113]; rfl) rfl
          · refine TO.sw rfl rfl rfl hb113 rfl rfl (StepS.fld rfl kfieldB_106_0_0_true) ?_
            refine TO.sw rfl rfl rfl hb113 rfl rfl (StepS.ldB rfl (Ent.at 0 rfl) kscalB_3_true rfl) ?_
            refine TO.sw rfl rfl rfl hb113 rfl rfl (StepS.cmp rfl rfl rfl) ?_
            refine TO.s rfl rfl rfl (StepS.pickF rfl hb113 rfl) ?_
            exact TO.up1 4 0 rfl rfl (by rw [hb113]; rfl) rfl
        refine TO.code ?_
        obtain ⟨⟨y116, y119, y122, y126, y129, x130⟩, hj131, hb106⟩ := bind_some hb106
        first | refine TC.cutM (fun a w => ∃ v114 : Value, ∃ v117 : Value, ∃ v120 : Value, ∃ v123 : Value, ∃ hs124 : List Value, ∃ v127 : Value, Mid 201 B [(4, .pointer (some ⟨b2, 0, none⟩)), (5, I (a0.length : Int)), (6, .pointer (some ⟨b3, 0, none⟩)), (7, .pointer (some ⟨b9, 0, none⟩)), (8, .pointer (some ⟨b16, 0, none⟩)), (9, .pointer (some ⟨b22, 0, none⟩)), (10, .pointer (some ⟨b28, 0, none⟩)), (12, .pointer (some ⟨b43, 0, none⟩)), (13, .pointer (some ⟨b44, 0, none⟩)), (14, .func (.func 86) #[] #[.pointer (some ⟨b16, 0, none⟩), .pointer (some ⟨b9, 0, none⟩), .pointer (some ⟨b43, 0, none⟩), .pointer (some ⟨b44, 0, none⟩)]), (17, I x130), (49, h1), (50, I (a1.length : Int)), (51, I x64)] (OwnS 138 3 v114 (y116.map cTiii) :: OwnS 4 1 v117 (y119.map cB) :: OwnS 4 1 v120 (y122.map cB) :: SS 22 3 1 cI v123 hs124 (y126) :: OwnS 3 1 v127 (y129.map cI) :: Bx b110 106 [I x108.1, I x108.2.1, I x108.2.2.1, I x108.2.2.2] :: OwnS 28 1 v61 (y63.map cI) :: Bx b44 139 [.func (.func 85) #[] #[.pointer (some ⟨b22, 0, none⟩), .pointer (some ⟨b28, 0, none⟩), .pointer (some ⟨b16, 0, none⟩), .pointer (some ⟨b9, 0, none⟩), .pointer (some ⟨b43, 0, none⟩)]] :: Bx b43 136 [v114] :: Bx b28 115 [v117] :: Bx b22 115 [v120] :: Bx b16 50 [v123] :: Bx b9 22 [v127] :: Bx b3 80 [v61, U 0, U 0, I 0] :: Bx b2 80 [.slice none 0 0, U 0, U 0, I 0] :: L) a w) ?_ ?_ | refine TC.cutX (fun a w => ∃ v114 : Value, ∃ v117 : Value, ∃ v120 : Value, ∃ v123 : Value, ∃ hs124 : List Value, ∃ v127 : Value, Mid 201 B [(4, .pointer (some ⟨b2, 0, none⟩)), (5, I (a0.length : Int)), (6, .pointer (some ⟨b3, 0, none⟩)), (7, .pointer (some ⟨b9, 0, none⟩)), (8, .pointer (some ⟨b16, 0, none⟩)), (9, .pointer (some ⟨b22, 0, none⟩)), (10, .pointer (some ⟨b28, 0, none⟩)), (12, .pointer (some ⟨b43, 0, none⟩)), (13, .pointer (some ⟨b44, 0, none⟩)), (14, .func (.func 86) #[] #[.pointer (some ⟨b16, 0, none⟩), .pointer (some ⟨b9, 0, none⟩), .pointer (some ⟨b43, 0, none⟩), .pointer (some ⟨b44, 0, none⟩)]), (17, I x130), (49, h1), (50, I (a1.length : Int)), (51, I x64)] (OwnS 138 3 v114 (y116.map cTiii) :: OwnS 4 1 v117 (y119.map cB) :: OwnS 4 1 v120 (y122.map cB) :: SS 22 3 1 cI v123 hs124 (y126) :: OwnS 3 1 v127 (y129.map cI) :: Bx b110 106 [I x108.1, I x108.2.1, I x108.2.2.1, I x108.2.2.2] :: OwnS 28 1 v61 (y63.map cI) :: Bx b44 139 [.func (.func 85) #[] #[.pointer (some ⟨b22, 0, none⟩), .pointer (some ⟨b28, 0, none⟩), .pointer (some ⟨b16, 0, none⟩), .pointer (some ⟨b9, 0, none⟩), .pointer (some ⟨b43, 0, none⟩)]] :: Bx b43 136 [v114] :: Bx b28 115 [v117] :: Bx b22 115 [v120] :: Bx b16 50 [v123] :: Bx b9 22 [v127] :: Bx b3 80 [v61, U 0, U 0, I 0] :: Bx b2 80 [.slice none 0 0, U 0, U 0, I 0] :: L) a w) ?_ ?_
        · refine TC.cond rfl (fun hc132 => ?_) (fun hc132 => ?_)
          · replace hj131 := cond_t hc132 hj131
            refine TC.region ?_
            refine TO.s rfl rfl rfl (StepS.assign rfl) ?_
            cases hj131
            refine TO.nil fun a w e s => ?_
            exact ⟨v45, v48, v51, v54, hs55, v58, e.sub (lk_of_allIn ⟨rfl, rfl, rfl, rfl, rfl, rfl, rfl, rfl, rfl, rfl, rfl, rfl, rfl, rfl, trivial⟩), s.mono fun _ s => (by exact Sat.by [14, 14, 14, 14, 14, 14, 14, 14, 14, 9, 14, 14, 14, 14, 14] 15 0 (by kernel_rfl) s)⟩
          · replace hj131 := cond_f hc132 hj131
            refine TC.k ?_
            refine TC.region ?_
            refine TO.s rfl rfl rfl (StepS.move rfl) ?_
            refine TO.s rfl rfl rfl (StepS.ldBA rfl (Ent.at 0 rfl) kaggB_106_4_true rfl rfl) ?_
            refine TO.s rfl rfl rfl (StepS.fld rfl kfieldB_106_0_0_true) ?_
            refine TO.s rfl rfl rfl (StepS.ldB rfl (Ent.at 0 rfl) kscalB_3_true rfl) ?_
            refine TO.s rfl rfl rfl (StepS.cmp rfl rfl rfl) ?_
            obtain ⟨r133, hc134, hj131⟩ := bind_some hj131
            refine TO.q rfl rfl rfl (StepQ.call kcallB_57_true rfl rfl (fun _ st => C57  hc134 st)) ?_
            refine TO.s rfl rfl rfl (StepS.not rfl) ?_
            refine TO.code ?_
            refine TC.cond rfl (fun hc135 => ?_) (fun hc135 => ?_)
            · replace hj131 := cond_t hc135 hj131
              refine TC.region ?_
              refine TO.s rfl rfl rfl (StepS.assign rfl) ?_
              cases hj131
              refine TO.nil fun a w e s => ?_
              exact ⟨v45, v48, v51, v54, hs55, v58, e.sub (lk_of_allIn ⟨rfl, rfl, rfl, rfl, rfl, rfl, rfl, rfl, rfl, rfl, rfl, rfl, rfl, rfl, trivial⟩), s.mono fun _ s => (by exact Sat.by [14, 14, 14, 14, 14, 14, 14, 14, 14, 9, 14, 14, 14, 14, 14] 15 0 (by kernel_rfl) s)⟩
            · replace hj131 := cond_f hc135 hj131
              refine TC.k ?_
              refine TC.region_quiet kfollows_mixedOrders_true (by kernel_rfl) ?_
              refine TQ.s rfl rfl rfl (StepS.fld rfl kfieldB_106_0_0_true).q ?_
              refine TQ.s rfl rfl rfl (StepS.ldB rfl (Ent.at 0 rfl) kscalB_3_true rfl).q ?_
              refine TQ.s rfl rfl rfl (StepS.cmp rfl rfl rfl).q ?_
              refine TQ.s rfl rfl rfl (StepS.move rfl).q ?_
              obtain ⟨b137, hj138, hj131⟩ := bind_some hj131
              refine TQ.mid1 16 95 (.bool b137) ?_ ?_
              · refine bcase ((x108.1 == 1)) (fun hb136 => ?_) (fun hb136 => ?_)
                · replace hj138 := cond_t hb136 hj138
                  refine TQ.sw rfl rfl rfl hb136 rfl rfl (StepS.ldB rfl (Ent.at 9 rfl) kscalB_115_true rfl).q ?_
                  refine TQ.sw rfl rfl rfl hb136 rfl rfl (StepS.fld rfl kfieldB_106_1_1_true).q ?_
                  refine TQ.sw rfl rfl rfl hb136 rfl rfl (StepS.ldB rfl (Ent.at 0 rfl) kscalB_3_true rfl).q ?_
                  obtain ⟨x139, hx140, hj138⟩ := bind_some hj138
                  refine TQ.sw rfl rfl rfl hb136 rfl rfl (StepS.idx rfl rfl (OwnS.rd (Ent.at 2 rfl)) ksliceB_115_4_1_true (idx_spec hx140).1 (idxm_lt hx140)).q ?_
                  refine TQ.sw rfl rfl rfl hb136 rfl rfl (StepS.ld0 rfl (OwnS.rd (Ent.at 2 rfl)) kscalB_4_true rfl (idxm hx140) rfl).q ?_
                  refine TQ.sw rfl rfl rfl hb136 rfl rfl (StepS.move rfl).q ?_
                  obtain ⟨b142, hj143, hj138⟩ := bind_some hj138
                  refine TQ.mid1 9 94 (.bool b142) ?_ ?_
                  · refine bcase (x139) (fun hb141 => ?_) (fun hb141 => ?_)
                    · replace hj143 := cond_t hb141 hj143
                      cases hj143
                      refine TQ.skip rfl rfl rfl (skipT hb141) rfl rfl ?_
                      refine TQ.skip rfl rfl rfl (skipT hb141) rfl rfl ?_
                      refine TQ.skip rfl rfl rfl (skipT hb141) rfl rfl ?_
                      refine TQ.skip rfl rfl rfl (skipT hb141) rfl rfl ?_
                      refine TQ.skip rfl rfl rfl (skipT hb141) rfl rfl ?_
                      refine TQ.skip rfl rfl rfl (skipT hb141) rfl rfl ?_
                      refine TQ.skip rfl rfl rfl (skipT hb141) rfl rfl ?_
                      refine TQ.skip rfl rfl rfl (skipT hb141) rfl rfl ?_
                      refine TQ.sw rfl rfl rfl hb136 rfl rfl (StepS.pickT rfl hb141 rfl).q ?_
                      exact TQ.up1 9 0 rfl rfl rfl rfl
                    · replace hj143 := cond_f hb141 hj143
                      refine TQ.sw rfl rfl rfl hb141 rfl rfl (StepS.ldB rfl (Ent.at 11 rfl) kscalB_50_true rfl).q ?_
                      refine TQ.sw rfl rfl rfl hb141 rfl rfl (StepS.fld rfl kfieldB_106_1_1_true).q ?_
                      refine TQ.sw rfl rfl rfl hb141 rfl rfl (StepS.ldB rfl (Ent.at 0 rfl) kscalB_3_true rfl).q ?_
                      obtain ⟨x144, hx145, hj143⟩ := bind_some hj143
                      refine TQ.sw rfl rfl rfl hb141 rfl rfl (StepS.idxRR rfl rfl (SS.rr (Ent.at 4 rfl)) ksliceB_50_22_1_true hx145).q ?_
                      refine TQ.sw rfl rfl rfl hb141 rfl rfl (StepS.ldRR rfl (SS.rr (Ent.at 4 rfl)) kscalB_22_true hx145).q ?_
                      refine TQ.sw rfl rfl rfl hb141 rfl rfl (StepS.fld rfl kfieldB_106_1_1_true).q ?_
                      refine TQ.sw rfl rfl rfl hb141 rfl rfl (StepS.ldB rfl (Ent.at 0 rfl) kscalB_3_true rfl).q ?_
                      obtain ⟨r147, hc148, hj143⟩ := bind_some hj143
                      refine TQ.sw rfl rfl rfl hb141 rfl rfl (StepQ.call kcallB_66_true rfl rfl (fun _ st => C66 (RR.row (SS.rr (Ent.at 4 rfl)) hx145) hc148 st)) ?_
                      cases hj143
                      refine TQ.sw rfl rfl rfl hb136 rfl rfl (StepS.pickF rfl hb141 rfl).q ?_
                      exact TQ.up1 9 0 rfl rfl rfl rfl
                  cases hj138
                  refine TQ.s rfl rfl rfl (StepS.pickT rfl hb136 rfl).q ?_
                  exact TQ.up1 8 0 rfl rfl rfl rfl
                · replace hj138 := cond_f hb136 hj138
                  cases hj138
                  refine TQ.skip rfl rfl rfl (skipF hb136) rfl rfl ?_
                  refine TQ.skip rfl rfl rfl (skipF hb136) rfl rfl ?_
                  refine TQ.skip rfl rfl rfl (skipF hb136) rfl rfl ?_
                  refine TQ.skip rfl rfl rfl (skipF hb136) rfl rfl ?_
                  refine TQ.skip rfl rfl rfl (skipF hb136) rfl rfl ?_
                  refine TQ.skip rfl rfl rfl (skipF hb136) rfl rfl ?_
                  refine TQ.skip rfl rfl rfl skipU rfl rfl ?_
                  refine TQ.skip rfl rfl rfl skipU rfl rfl ?_
                  refine TQ.skip rfl rfl rfl skipU rfl rfl ?_
                  refine TQ.skip rfl rfl rfl skipU rfl rfl ?_
                  refine TQ.skip rfl rfl rfl skipU rfl rfl ?_
                  refine TQ.skip rfl rfl rfl skipU rfl rfl ?_
                  refine TQ.skip rfl rfl rfl skipU rfl rfl ?_
                  refine TQ.skip rfl rfl rfl skipU rfl rfl ?_
                  refine TQ.skip rfl rfl rfl (skipF hb136) rfl rfl ?_
                  refine TQ.s rfl rfl rfl (StepS.pickF rfl hb136 rfl).q ?_
                  exact TQ.up1 16 0 rfl rfl rfl rfl
              refine TQ.s rfl rfl rfl (StepS.move rfl).q ?_
              obtain ⟨b150, hj151, hj131⟩ := bind_some hj131
              refine TQ.mid1 12 108 (.bool b150) ?_ ?_
              · refine bcase (b137) (fun hb149 => ?_) (fun hb149 => ?_)
                · replace hj151 := cond_t hb149 hj151
                  cases hj151
                  refine TQ.skip rfl rfl rfl (skipT hb149) rfl rfl ?_
                  refine TQ.skip rfl rfl rfl (skipT hb149) rfl rfl ?_
                  refine TQ.skip rfl rfl rfl (skipT hb149) rfl rfl ?_
                  refine TQ.skip rfl rfl rfl (skipT hb149) rfl rfl ?_
                  refine TQ.skip rfl rfl rfl skipU rfl rfl ?_
                  refine TQ.skip rfl rfl rfl skipU rfl rfl ?_
                  refine TQ.skip rfl rfl rfl skipU rfl rfl ?_
                  refine TQ.skip rfl rfl rfl skipU rfl rfl ?_
                  refine TQ.skip rfl rfl rfl skipU rfl rfl ?_
                  refine TQ.skip rfl rfl rfl skipU rfl rfl ?_
                  refine TQ.skip rfl rfl rfl (skipT hb149) rfl rfl ?_
                  refine TQ.s rfl rfl rfl (StepS.pickT rfl hb149 rfl).q ?_
                  exact TQ.up1 12 0 rfl rfl rfl rfl
                · replace hj151 := cond_f hb149 hj151
                  refine TQ.sw rfl rfl rfl hb149 rfl rfl (StepS.fld rfl kfieldB_106_0_0_true).q ?_
                  refine TQ.sw rfl rfl rfl hb149 rfl rfl (StepS.ldB rfl (Ent.at 0 rfl) kscalB_3_true rfl).q ?_
                  refine TQ.sw rfl rfl rfl hb149 rfl rfl (StepS.cmp rfl rfl rfl).q ?_
                  refine TQ.sw rfl rfl rfl hb149 rfl rfl (StepS.move rfl).q ?_
                  obtain ⟨b153, hj154, hj151⟩ := bind_some hj151
                  refine TQ.mid1 7 107 (.bool b153) ?_ ?_
                  · refine bcase ((x108.1 == 3)) (fun hb152 => ?_) (fun hb152 => ?_)
                    · replace hj154 := cond_t hb152 hj154
                      refine TQ.sw rfl rfl rfl hb152 rfl rfl (StepS.ldB rfl (Ent.at 9 rfl) kscalB_115_true rfl).q ?_
                      refine TQ.sw rfl rfl rfl hb152 rfl rfl (StepS.fld rfl kfieldB_106_1_1_true).q ?_
                      refine TQ.sw rfl rfl rfl hb152 rfl rfl (StepS.ldB rfl (Ent.at 0 rfl) kscalB_3_true rfl).q ?_
                      obtain ⟨x155, hx156, hj154⟩ := bind_some hj154
                      refine TQ.sw rfl rfl rfl hb152 rfl rfl (StepS.idx rfl rfl (OwnS.rd (Ent.at 2 rfl)) ksliceB_115_4_1_true (idx_spec hx156).1 (idxm_lt hx156)).q ?_
                      refine TQ.sw rfl rfl rfl hb152 rfl rfl (StepS.ld0 rfl (OwnS.rd (Ent.at 2 rfl)) kscalB_4_true rfl (idxm hx156) rfl).q ?_
                      refine TQ.sw rfl rfl rfl hb152 rfl rfl (StepS.not rfl).q ?_
                      cases hj154
                      refine TQ.sw rfl rfl rfl hb149 rfl rfl (StepS.pickT rfl hb152 rfl).q ?_
                      exact TQ.up1 7 0 rfl rfl rfl rfl
                    · replace hj154 := cond_f hb152 hj154
                      cases hj154
                      refine TQ.skip rfl rfl rfl (skipF hb152) rfl rfl ?_
                      refine TQ.skip rfl rfl rfl (skipF hb152) rfl rfl ?_
                      refine TQ.skip rfl rfl rfl (skipF hb152) rfl rfl ?_
                      refine TQ.skip rfl rfl rfl (skipF hb152) rfl rfl ?_
                      refine TQ.skip rfl rfl rfl (skipF hb152) rfl rfl ?_
                      refine TQ.skip rfl rfl rfl (skipF hb152) rfl rfl ?_
                      refine TQ.sw rfl rfl rfl hb149 rfl rfl (StepS.pickF rfl hb152 rfl).q ?_
                      exact TQ.up1 7 0 rfl rfl rfl rfl
                  cases hj151
                  refine TQ.s rfl rfl rfl (StepS.pickF rfl hb149 rfl).q ?_
                  exact TQ.up1 6 0 rfl rfl rfl rfl
              refine TQ.code ?_
              refine TC.cond rfl (fun hc157 => ?_) (fun hc157 => ?_)
              · replace hj131 := cond_t hc157 hj131
                refine TC.region ?_
                refine TO.s rfl rfl rfl (StepS.assign rfl) ?_
                cases hj131
                refine TO.nil fun a w e s => ?_
                exact ⟨v45, v48, v51, v54, hs55, v58, e.sub (lk_of_allIn ⟨rfl, rfl, rfl, rfl, rfl, rfl, rfl, rfl, rfl, rfl, rfl, rfl, rfl, rfl, trivial⟩), s.mono fun _ s => (by exact Sat.by [14, 14, 14, 14, 14, 14, 14, 14, 14, 9, 14, 14, 14, 14, 14] 15 0 (by kernel_rfl) s)⟩
              · replace hj131 := cond_f hc157 hj131
                refine TC.k ?_
                refine TC.region ?_
                refine TO.s rfl rfl rfl (StepS.fld rfl kfieldB_106_0_0_true) ?_
                refine TO.s rfl rfl rfl (StepS.ldB rfl (Ent.at 0 rfl) kscalB_3_true rfl) ?_
                refine TO.s rfl rfl rfl (StepS.cmp rfl rfl rfl) ?_
                refine TO.code ?_
                refine TC.cond rfl (fun hc158 => ?_) (fun hc158 => ?_)
                · replace hj131 := cond_t hc158 hj131
                  refine TC.region ?_
                  refine TO.s rfl rfl rfl (StepS.move rfl) ?_
                  refine TO.s rfl rfl rfl (StepS.fld rfl kfieldB_106_1_1_true) ?_
                  refine TO.s rfl rfl rfl (StepS.ldB rfl (Ent.at 0 rfl) kscalB_3_true rfl) ?_
                  refine TO.s rfl rfl rfl (StepS.fld rfl kfieldB_106_1_1_true) ?_
                  refine TO.s rfl rfl rfl (StepS.ldB rfl (Ent.at 0 rfl) kscalB_3_true rfl) ?_
                  refine TO.ghost (fun _ s => Sat.front 2 rfl s) ?_
                  refine TO.ghost (fun _ s => Sat.front 9 rfl s) ?_
                  refine TO.ghost (fun _ s => Sat.front 4 rfl s) ?_
                  refine TO.ghost (fun _ s => Sat.front 10 rfl s) ?_
                  refine TO.ghost (fun _ s => Sat.front 5 rfl s) ?_
                  refine TO.ghost (fun _ s => Sat.front 10 rfl s) ?_
                  refine TO.ghost (fun _ s => Sat.front 8 rfl s) ?_
                  refine TO.ghost (fun _ s => Sat.front 12 rfl s) ?_
                  refine TO.ghost (fun _ s => Sat.front 9 rfl s) ?_
                  refine TO.ghost (fun _ s => Sat.front 12 rfl s) ?_
                  obtain ⟨⟨r159, r160, r161, r162, r163⟩, hc164, hj131⟩ := bind_some hj131
                  refine TO.callOC kcallB_86_true rfl rfl rfl rfl (fun _ st => C86 (a2 := y57) (a3 := y60) (a4 := y47) (a6 := y53) (a7 := y50) (Ent.at 2 rfl) hc164 st) ?_
                  rintro _ _ ⟨v165, hs166, v168, v170, v172, v174, rfl, rfl⟩
                  cases hj131
                  refine TO.nil fun a w e s => ?_
                  exact ⟨v170, v174, v172, v165, hs166, v168, e.sub (lk_of_allIn ⟨rfl, rfl, rfl, rfl, rfl, rfl, rfl, rfl, rfl, rfl, rfl, rfl, rfl, rfl, trivial⟩), s.mono fun _ s => (by exact Sat.by [14, 14, 4, 3, 8, 10, 8, 14, 14, 14, 11, 11, 13, 14, 14] 15 0 (by kernel_rfl) s)⟩
                · replace hj131 := cond_f hc158 hj131
                  refine TC.k ?_
                  refine TC.region ?_
                  refine TO.s rfl rfl rfl (StepS.fld rfl kfieldB_106_0_0_true) ?_
                  refine TO.s rfl rfl rfl (StepS.ldB rfl (Ent.at 0 rfl) kscalB_3_true rfl) ?_
                  refine TO.s rfl rfl rfl (StepS.cmp rfl rfl rfl) ?_
                  refine TO.code ?_
                  refine TC.cond rfl (fun hc176 => ?_) (fun hc176 => ?_)
                  · replace hj131 := cond_t hc176 hj131
                    refine TC.k ?_
                    refine TC.region ?_
                    refine TO.s rfl rfl rfl (StepS.ldB rfl (Ent.at 9 rfl) kscalB_115_true rfl) ?_
                    refine TO.s rfl rfl rfl (StepS.fld rfl kfieldB_106_1_1_true) ?_
                    refine TO.s rfl rfl rfl (StepS.ldB rfl (Ent.at 0 rfl) kscalB_3_true rfl) ?_
                    obtain ⟨x177, hx178, hj131⟩ := bind_some hj131
                    refine TO.s rfl rfl rfl (StepS.idx rfl rfl (OwnS.rd (Ent.at 2 rfl)) ksliceB_115_4_1_true (idx_spec hx178).1 (idxm_lt hx178)) ?_
                    refine TO.stO (i := x108.2.1.toNat) (off := 0) (us := [.bool false]) 2 false rfl rfl rfl ksizeB_4_1_true rfl rfl rfl (idx_spec hx178).2 rfl (by simp [Value.oneCell']) rfl ?_
                    refine TO.code ?_
                    refine TC.region ?_
                    refine TO.s rfl rfl rfl (StepS.ldB rfl (Ent.at 7 rfl) kscalB_139_true rfl) ?_
                    refine TO.s rfl rfl rfl (StepS.fld rfl kfieldB_106_1_1_true) ?_
                    refine TO.s rfl rfl rfl (StepS.ldB rfl (Ent.at 0 rfl) kscalB_3_true rfl) ?_
                    refine TO.ghost (fun _ s => Sat.front 1 rfl s) ?_
                    refine TO.ghost (fun _ s => Sat.front 8 rfl s) ?_
                    refine TO.ghost (fun _ s => Sat.front 6 rfl s) ?_
                    refine TO.ghost (fun _ s => Sat.front 12 rfl s) ?_
                    refine TO.ghost (fun _ s => Sat.front 7 rfl s) ?_
                    refine TO.ghost (fun _ s => Sat.front 12 rfl s) ?_
                    refine TO.ghost (fun _ s => Sat.front 7 rfl s) ?_
                    refine TO.ghost (fun _ s => Sat.front 11 rfl s) ?_
                    refine TO.ghost (fun _ s => Sat.front 9 rfl s) ?_
                    refine TO.ghost (fun _ s => Sat.front 12 rfl s) ?_
                    obtain ⟨⟨r179, r180, r181, r182, r183⟩, hc184, hj131⟩ := bind_some hj131
                    refine TO.callOC kcallB_85_true rfl rfl rfl rfl (fun _ st => C85 (a1 := y53) (a2 := (y50.set x108.2.1.toNat false)) (a3 := y57) (a4 := y60) (a5 := y47)  hc184 st) ?_
                    rintro _ _ ⟨v185, v187, v189, hs190, v192, v194, rfl, rfl⟩
                    cases hj131
                    refine TO.nil fun a w e s => ?_
                    exact ⟨v194, v187, v185, v189, hs190, v192, e.sub (lk_of_allIn ⟨rfl, rfl, rfl, rfl, rfl, rfl, rfl, rfl, rfl, rfl, rfl, rfl, rfl, rfl, trivial⟩), s.mono fun _ s => (by exact Sat.by [14, 14, 8, 7, 4, 6, 10, 14, 14, 14, 13, 13, 12, 13, 14] 15 0 (by kernel_rfl) s)⟩
                  · replace hj131 := cond_f hc176 hj131
                    refine TC.k ?_
                    refine TC.region ?_
                    refine TO.s rfl rfl rfl (StepS.move rfl) ?_
                    refine TO.s rfl rfl rfl (StepS.cmp rfl rfl rfl) ?_
                    refine TO.code ?_
                    refine TC.cond rfl (fun hc196 => ?_) (fun hc196 => ?_)
                    · replace hj131 := cond_t hc196 hj131
                      refine TC.region ?_
                      refine TO.s rfl rfl rfl (StepS.assign rfl) ?_
                      cases hj131
                      refine TO.nil fun a w e s => ?_
                      exact ⟨v45, v48, v51, v54, hs55, v58, e.sub (lk_of_allIn ⟨rfl, rfl, rfl, rfl, rfl, rfl, rfl, rfl, rfl, rfl, rfl, rfl, rfl, rfl, trivial⟩), s.mono fun _ s => (by exact Sat.by [14, 14, 14, 14, 14, 14, 14, 14, 14, 9, 14, 14, 14, 14, 14] 15 0 (by kernel_rfl) s)⟩
                    · replace hj131 := cond_f hc196 hj131
                      refine TC.k ?_
                      refine TC.region ?_
                      refine TO.s rfl rfl rfl (StepS.ldB rfl (Ent.at 8 rfl) kscalB_136_true rfl) ?_
                      refine TO.s rfl rfl rfl (StepS.move rfl) ?_
                      obtain ⟨x197, hx198, hj131⟩ := bind_some hj131
                      refine TO.s rfl rfl rfl (StepS.idx rfl rfl (OwnS.rd (Ent.at 1 rfl)) ksliceB_136_138_3_true (idx_spec hx198).1 (idxm_lt hx198)) ?_
                      refine TO.s rfl rfl rfl (StepS.ptrf rfl kfieldB_138_2_2_true) ?_
                      refine TO.s rfl rfl rfl (StepS.ld1 rfl (OwnS.rd (Ent.at 1 rfl)) kscalB_3_true rfl (idxm hx198) rfl) ?_
                      refine TO.s rfl rfl rfl (StepS.cmp rfl rfl rfl) ?_
                      refine TO.s rfl rfl rfl (StepS.assign rfl) ?_
                      refine TO.code ?_
                      refine TC.k ?_
                      refine TC.region ?_
                      refine TO.s rfl rfl rfl (StepS.ldB rfl (Ent.at 8 rfl) kscalB_136_true rfl) ?_
                      refine TO.s rfl rfl rfl (StepS.move rfl) ?_
                      obtain ⟨r199, hc200, hj131⟩ := bind_some hj131
                      refine TO.callO kcallB_62_true rfl rfl rfl (fun _ st => C62 (OwnS.rd (Ent.at 1 rfl)) hc200 st) ?_
                      rintro v201 _ ⟨_, rfl, rfl⟩
                      refine TO.pure (fun _ s => Rd.one (OwnS.rd (Ent.at 0 rfl)) s) fun oc203 => ?_
                      refine TO.stB (us := [v201]) 9 [v201] rfl rfl rfl ksizeB_136_1_true oc203.2 rfl rfl (by intro u hu; simp only [List.mem_cons, List.not_mem_nil, or_false] at hu; rcases hu with rfl <;> first | exact oc203.1 | rfl) rfl ?_
                      refine TO.code ?_
                      refine TC.k ?_
                      refine TC.region ?_
                      refine TO.s rfl rfl rfl (StepS.move rfl) ?_
                      refine TO.code ?_
                      refine TC.cond rfl (fun hc204 => ?_) (fun hc204 => ?_)
                      · replace hj131 := cond_t hc204 hj131
                        refine TC.k ?_
                        refine TC.region ?_
                        refine TO.s rfl rfl rfl (StepS.ldB rfl (Ent.at 11 rfl) kscalB_115_true rfl) ?_
                        refine TO.s rfl rfl rfl (StepS.fld rfl kfieldB_106_2_2_true) ?_
                        refine TO.s rfl rfl rfl (StepS.ldB rfl (Ent.at 1 rfl) kscalB_3_true rfl) ?_
                        obtain ⟨x205, hx206, hj131⟩ := bind_some hj131
                        refine TO.s rfl rfl rfl (StepS.idx rfl rfl (OwnS.rd (Ent.at 4 rfl)) ksliceB_115_4_1_true (idx_spec hx206).1 (idxm_lt hx206)) ?_
                        refine TO.stO (i := x108.2.2.1.toNat) (off := 0) (us := [.bool true]) 4 true rfl rfl rfl ksizeB_4_1_true rfl rfl rfl (idx_spec hx206).2 rfl (by simp [Value.oneCell']) rfl ?_
                        refine TO.code ?_
                        refine TC.k ?_
                        refine TC.region ?_
                        refine TO.s rfl rfl rfl (StepS.ldB rfl (Ent.at 13 rfl) kscalB_22_true rfl) ?_
                        refine TO.s rfl rfl rfl (StepS.fld rfl kfieldB_106_2_2_true) ?_
                        refine TO.s rfl rfl rfl (StepS.ldB rfl (Ent.at 1 rfl) kscalB_3_true rfl) ?_
                        refine TO.s rfl rfl rfl (StepS.fld rfl kfieldB_106_2_2_true) ?_
                        refine TO.s rfl rfl rfl (StepS.ldB rfl (Ent.at 1 rfl) kscalB_3_true rfl) ?_
                        obtain ⟨x207, hx208, hj131⟩ := bind_some hj131
                        refine TO.s rfl rfl rfl (StepS.idx rfl rfl (OwnS.rd (Ent.at 6 rfl)) ksliceB_22_3_1_true (idx_spec hx208).1 (idxm_lt hx208)) ?_
                        refine TO.stO (i := x108.2.2.1.toNat) (off := 0) (us := [I x108.2.2.1]) 6 x108.2.2.1 rfl rfl rfl ksizeB_3_1_true rfl rfl rfl (idx_spec hx208).2 rfl (by simp [Value.oneCell']) rfl ?_
                        refine TO.code ?_
                        refine TC.region ?_
                        refine TO.s rfl rfl rfl (StepS.ldB rfl (Ent.at 8 rfl) kscalB_139_true rfl) ?_
                        refine TO.s rfl rfl rfl (StepS.fld rfl kfieldB_106_2_2_true) ?_
                        refine TO.s rfl rfl rfl (StepS.ldB rfl (Ent.at 1 rfl) kscalB_3_true rfl) ?_
                        refine TO.ghost (fun _ s => Sat.front 9 rfl s) ?_
                        refine TO.ghost (fun _ s => Sat.front 7 rfl s) ?_
                        refine TO.ghost (fun _ s => Sat.front 13 rfl s) ?_
                        refine TO.ghost (fun _ s => Sat.front 8 rfl s) ?_
                        refine TO.ghost (fun _ s => Sat.front 13 rfl s) ?_
                        refine TO.ghost (fun _ s => Sat.front 8 rfl s) ?_
                        refine TO.ghost (fun _ s => Sat.front 12 rfl s) ?_
                        refine TO.ghost (fun _ s => Sat.front 10 rfl s) ?_
                        refine TO.ghost (fun _ s => Sat.front 13 rfl s) ?_
                        obtain ⟨⟨r209, r210, r211, r212, r213⟩, hc214, hj131⟩ := bind_some hj131
                        refine TO.callOC kcallB_85_true rfl rfl rfl rfl (fun _ st => C85 (a1 := (y53.set x108.2.2.1.toNat true)) (a2 := y50) (a3 := y57) (a4 := (y60.set x108.2.2.1.toNat x108.2.2.1)) (a5 := r199)  hc214 st) ?_
                        rintro _ _ ⟨v215, v217, v219, hs220, v222, v224, rfl, rfl⟩
                        cases hj131
                        refine TO.nil fun a w e s => ?_
                        exact ⟨v224, v217, v215, v219, hs220, v222, e.sub (lk_of_allIn ⟨rfl, rfl, rfl, rfl, rfl, rfl, rfl, rfl, rfl, rfl, rfl, rfl, rfl, rfl, trivial⟩), s.mono fun _ s => (by exact Sat.by [15, 15, 8, 7, 4, 6, 10, 15, 15, 14, 13, 13, 12, 13, 14] 15 1 (by kernel_rfl) s)⟩
                      · replace hj131 := cond_f hc204 hj131
                        refine TC.region ?_
                        refine TO.s rfl rfl rfl (StepS.move rfl) ?_
                        refine TO.s rfl rfl rfl (StepS.fld rfl kfieldB_106_2_2_true) ?_
                        refine TO.s rfl rfl rfl (StepS.ldB rfl (Ent.at 1 rfl) kscalB_3_true rfl) ?_
                        refine TO.s rfl rfl rfl (StepS.fld rfl kfieldB_106_1_1_true) ?_
                        refine TO.s rfl rfl rfl (StepS.ldB rfl (Ent.at 1 rfl) kscalB_3_true rfl) ?_
                        refine TO.ghost (fun _ s => Sat.front 3 rfl s) ?_
                        refine TO.ghost (fun _ s => Sat.front 10 rfl s) ?_
                        refine TO.ghost (fun _ s => Sat.front 5 rfl s) ?_
                        refine TO.ghost (fun _ s => Sat.front 11 rfl s) ?_
                        refine TO.ghost (fun _ s => Sat.front 4 rfl s) ?_
                        refine TO.ghost (fun _ s => Sat.front 11 rfl s) ?_
                        refine TO.ghost (fun _ s => Sat.front 9 rfl s) ?_
                        refine TO.ghost (fun _ s => Sat.front 13 rfl s) ?_
                        refine TO.ghost (fun _ s => Sat.front 10 rfl s) ?_
                        refine TO.ghost (fun _ s => Sat.front 13 rfl s) ?_
                        obtain ⟨⟨r226, r227, r228, r229, r230⟩, hc231, hj131⟩ := bind_some hj131
                        refine TO.callOC kcallB_86_true rfl rfl rfl rfl (fun _ st => C86 (a2 := y57) (a3 := y60) (a4 := r199) (a6 := y53) (a7 := y50) (Ent.at 3 rfl) hc231 st) ?_
                        rintro _ _ ⟨v232, hs233, v235, v237, v239, v241, rfl, rfl⟩
                        cases hj131
                        refine TO.nil fun a w e s => ?_
                        exact ⟨v237, v241, v239, v232, hs233, v235, e.sub (lk_of_allIn ⟨rfl, rfl, rfl, rfl, rfl, rfl, rfl, rfl, rfl, rfl, rfl, rfl, rfl, rfl, trivial⟩), s.mono fun _ s => (by exact Sat.by [15, 15, 4, 3, 8, 10, 8, 15, 15, 14, 11, 11, 13, 14, 14] 15 1 (by kernel_rfl) s)⟩
        · intro a w ⟨v114, v117, v120, v123, hs124, v127, he, hs⟩
          refine TC.use ?_ he hs
          refine TC.region ?_
          refine TO.s rfl rfl rfl (StepS.fld rfl kfieldB_80_0_0_true) ?_
          refine TO.s rfl rfl rfl (StepS.ldB rfl (Ent.at 13 rfl) kscalB_24_true rfl) ?_
          refine TO.s rfl rfl rfl (StepS.move rfl) ?_
          refine TO.litS (f := cI) ([x130] : List Int) kelemB_24_28_1_8_true kinfo_28_bind_zero_some_I_0 rfl rfl (fun _ => rfl) rfl rfl (by kernel_rfl) rfl fun v243 => ?_
          obtain ⟨y245, hk246, hb106⟩ := bind_some hb106
          refine TO.app (k := 7) (f := cI) kelemB_24_28_1_8_true (by decide) rfl rfl rfl (OwnS.rd (Ent.at 0 rfl)) hk246 (fun x c hc => by simp [Value.oneCell'] at hc ⊢; first | (obtain rfl := hc; rfl) | (rcases hc with rfl <;> rfl)) rfl rfl fun v247 => ?_
          refine TO.s rfl rfl rfl (StepS.fld rfl kfieldB_80_0_0_true) ?_
          refine TO.pure (fun _ s => Rd.one (OwnS.rd (Ent.at 7 rfl)) s) fun oc248 => ?_
          refine TO.stB (us := [v247]) 14 [v247, U 0, U 0, I 0] rfl rfl rfl ksizeB_24_1_true oc248.2 rfl rfl (by intro u hu; simp only [List.mem_cons, List.not_mem_nil, or_false] at hu; rcases hu with rfl <;> first | exact oc248.1 | rfl) rfl ?_
          refine TO.code ?_
          refine TC.region ?_
          refine TO.s rfl rfl rfl (StepS.ari rfl rfl rfl) ?_
          refine TO.s rfl rfl rfl (StepS.move rfl) ?_
          cases hb106
          refine TO.nil fun a w e s => ?_
          exact ⟨v114, v117, v120, v123, hs124, v127, v247, e.sub (lk_of_allIn ⟨rfl, rfl, rfl, rfl, rfl, rfl, rfl, rfl, rfl, rfl, rfl, rfl, rfl, trivial⟩), s.mono fun _ s => (by exact Sat.by [15, 15, 15, 15, 15, 15, 15, 15, 15, 14, 14, 14, 14, 14] 14 2 (by kernel_rfl) s)⟩
      · replace hb106 := cond_f hc107 hb106
        cases hb106
        refine TC.exit rfl fun a w e s => ?_
        exact ⟨v45, v48, v51, v54, hs55, v58, v61, e.sub (lk_of_allIn ⟨rfl, rfl, rfl, rfl, rfl, rfl, trivial⟩), s⟩
    · exact fun a w e s => ⟨.slice none 0 0, v26, v20, v13, hs14, v8, .slice none 0 0, e.sub (lk_of_allIn ⟨rfl, rfl, rfl, rfl, rfl, rfl, rfl, rfl, rfl, rfl, rfl, rfl, rfl, trivial⟩), s.mono fun _ s => (by replace s := Sat.nilS (e := 28) (sz := 1) (f := cI) s; replace s := Sat.nilS (e := 138) (sz := 3) (f := cTiii) s; exact Sat.by [13, 13, 12, 11, 10, 9, 9, 9, 9, 13, 13, 13, 13, 13] 14 0 (by kernel_rfl) s)⟩
    · rintro ⟨y87, y90, y93, y97, y100, y103⟩ rfl a w ⟨v85, v88, v91, v94, hs95, v98, v101, he, hs⟩
      dsimp only [Ctl.on] at hm
      refine TC.use ?_ he hs
      refine TC.k ?_
      refine TC.k ?_
      refine TC.region ?_
      refine TO.s rfl rfl rfl (StepS.assign rfl) ?_
      refine TO.code ?_
      obtain ⟨o257, hw258, hm⟩ := bind_some hm
      refine TC.loop hw258 (fun (x249, x250, x251) => fun a w => Mid 201 B [(4, .pointer (some ⟨b2, 0, none⟩)), (5, I (a0.length : Int)), (6, .pointer (some ⟨b3, 0, none⟩)), (8, .pointer (some ⟨b16, 0, none⟩)), (10, .pointer (some ⟨b28, 0, none⟩)), (12, .pointer (some ⟨b43, 0, none⟩)), (20, I x251)] (OwnS 138 3 v85 (y87.map cTiii) :: OwnS 4 1 v88 (y90.map cB) :: OwnS 4 1 v91 (y93.map cB) :: SS 22 3 1 cI v94 hs95 (y97) :: OwnS 3 1 v98 (y100.map cI) :: OwnS 28 1 v101 (y103.map cI) :: Bx b44 139 [.func (.func 85) #[] #[.pointer (some ⟨b22, 0, none⟩), .pointer (some ⟨b28, 0, none⟩), .pointer (some ⟨b16, 0, none⟩), .pointer (some ⟨b9, 0, none⟩), .pointer (some ⟨b43, 0, none⟩)]] :: Bx b43 136 [v85] :: Bx b28 115 [v88] :: Bx b22 115 [v91] :: Bx b16 50 [v94] :: Bx b9 22 [v98] :: Bx b3 80 [v101, U x249, U x250, I 0] :: Bx b2 80 [.slice none 0 0, U 0, U 0, I 0] :: L) a w) (fun (x255, x256) => fun a w => Mid 201 B [(4, .pointer (some ⟨b2, 0, none⟩)), (6, .pointer (some ⟨b3, 0, none⟩)), (12, .pointer (some ⟨b43, 0, none⟩))] (OwnS 138 3 v85 (y87.map cTiii) :: OwnS 4 1 v88 (y90.map cB) :: OwnS 4 1 v91 (y93.map cB) :: SS 22 3 1 cI v94 hs95 (y97) :: OwnS 3 1 v98 (y100.map cI) :: OwnS 28 1 v101 (y103.map cI) :: Bx b44 139 [.func (.func 85) #[] #[.pointer (some ⟨b22, 0, none⟩), .pointer (some ⟨b28, 0, none⟩), .pointer (some ⟨b16, 0, none⟩), .pointer (some ⟨b9, 0, none⟩), .pointer (some ⟨b43, 0, none⟩)]] :: Bx b43 136 [v85] :: Bx b28 115 [v88] :: Bx b22 115 [v91] :: Bx b16 50 [v94] :: Bx b9 22 [v98] :: Bx b3 80 [v101, U x255, U x256, I 0] :: Bx b2 80 [.slice none 0 0, U 0, U 0, I 0] :: L) a w) (fun (_ : Unit) _ _ => False) ?_ ?_ ?_ ?_
      · rintro ⟨x249, x250, x251⟩ o257r hb259 a w ⟨he, hs⟩
        dsimp only [F48_L2] at hb259
        refine TC.use ?_ he hs
        refine TC.k ?_
        refine TC.k ?_
        refine TC.region ?_
        refine TO.s rfl rfl rfl (StepS.move rfl) ?_
        refine TO.s rfl rfl rfl (StepS.move rfl) ?_
        refine TO.s rfl rfl rfl (StepS.cmp rfl rfl rfl) ?_
        refine TO.code ?_
        refine TC.cond rfl (fun hc260 => ?_) (fun hc260 => ?_)
        · replace hb259 := cond_t hc260 hb259
          refine TC.skipk ?_
          refine TC.k ?_
          obtain ⟨⟨x261, x262⟩, hj263, hb259⟩ := bind_some hb259
          first | refine TC.cutM (fun a w => Mid 201 B [(4, .pointer (some ⟨b2, 0, none⟩)), (5, I (a0.length : Int)), (6, .pointer (some ⟨b3, 0, none⟩)), (8, .pointer (some ⟨b16, 0, none⟩)), (10, .pointer (some ⟨b28, 0, none⟩)), (12, .pointer (some ⟨b43, 0, none⟩)), (20, I x251)] (OwnS 138 3 v85 (y87.map cTiii) :: OwnS 4 1 v88 (y90.map cB) :: OwnS 4 1 v91 (y93.map cB) :: SS 22 3 1 cI v94 hs95 (y97) :: OwnS 3 1 v98 (y100.map cI) :: OwnS 28 1 v101 (y103.map cI) :: Bx b44 139 [.func (.func 85) #[] #[.pointer (some ⟨b22, 0, none⟩), .pointer (some ⟨b28, 0, none⟩), .pointer (some ⟨b16, 0, none⟩), .pointer (some ⟨b9, 0, none⟩), .pointer (some ⟨b43, 0, none⟩)]] :: Bx b43 136 [v85] :: Bx b28 115 [v88] :: Bx b22 115 [v91] :: Bx b16 50 [v94] :: Bx b9 22 [v98] :: Bx b3 80 [v101, U x261, U x262, I 0] :: Bx b2 80 [.slice none 0 0, U 0, U 0, I 0] :: L) a w) ?_ ?_ | refine TC.cutX (fun a w => Mid 201 B [(4, .pointer (some ⟨b2, 0, none⟩)), (5, I (a0.length : Int)), (6, .pointer (some ⟨b3, 0, none⟩)), (8, .pointer (some ⟨b16, 0, none⟩)), (10, .pointer (some ⟨b28, 0, none⟩)), (12, .pointer (some ⟨b43, 0, none⟩)), (20, I x251)] (OwnS 138 3 v85 (y87.map cTiii) :: OwnS 4 1 v88 (y90.map cB) :: OwnS 4 1 v91 (y93.map cB) :: SS 22 3 1 cI v94 hs95 (y97) :: OwnS 3 1 v98 (y100.map cI) :: OwnS 28 1 v101 (y103.map cI) :: Bx b44 139 [.func (.func 85) #[] #[.pointer (some ⟨b22, 0, none⟩), .pointer (some ⟨b28, 0, none⟩), .pointer (some ⟨b16, 0, none⟩), .pointer (some ⟨b9, 0, none⟩), .pointer (some ⟨b43, 0, none⟩)]] :: Bx b43 136 [v85] :: Bx b28 115 [v88] :: Bx b22 115 [v91] :: Bx b16 50 [v94] :: Bx b9 22 [v98] :: Bx b3 80 [v101, U x261, U x262, I 0] :: Bx b2 80 [.slice none 0 0, U 0, U 0, I 0] :: L) a w) ?_ ?_
          · refine TC.block ?_
            refine TC.k ?_
            refine TC.k ?_
            refine TC.region ?_
            refine TO.s rfl rfl rfl (StepS.ldB rfl (Ent.at 8 rfl) kscalB_115_true rfl) ?_
            refine TO.s rfl rfl rfl (StepS.move rfl) ?_
            obtain ⟨x264, hx265, hj263⟩ := bind_some hj263
            refine TO.s rfl rfl rfl (StepS.idx rfl rfl (OwnS.rd (Ent.at 1 rfl)) ksliceB_115_4_1_true (idx_spec hx265).1 (idxm_lt hx265)) ?_
            refine TO.s rfl rfl rfl (StepS.ld0 rfl (OwnS.rd (Ent.at 1 rfl)) kscalB_4_true rfl (idxm hx265) rfl) ?_
            refine TO.code ?_
            obtain ⟨x266, hj267, hj263⟩ := bind_some hj263
            first | refine TC.cutM (fun a w => Mid 201 B [(4, .pointer (some ⟨b2, 0, none⟩)), (5, I (a0.length : Int)), (6, .pointer (some ⟨b3, 0, none⟩)), (8, .pointer (some ⟨b16, 0, none⟩)), (10, .pointer (some ⟨b28, 0, none⟩)), (12, .pointer (some ⟨b43, 0, none⟩)), (20, I x251)] (OwnS 138 3 v85 (y87.map cTiii) :: OwnS 4 1 v88 (y90.map cB) :: OwnS 4 1 v91 (y93.map cB) :: SS 22 3 1 cI v94 hs95 (y97) :: OwnS 3 1 v98 (y100.map cI) :: OwnS 28 1 v101 (y103.map cI) :: Bx b44 139 [.func (.func 85) #[] #[.pointer (some ⟨b22, 0, none⟩), .pointer (some ⟨b28, 0, none⟩), .pointer (some ⟨b16, 0, none⟩), .pointer (some ⟨b9, 0, none⟩), .pointer (some ⟨b43, 0, none⟩)]] :: Bx b43 136 [v85] :: Bx b28 115 [v88] :: Bx b22 115 [v91] :: Bx b16 50 [v94] :: Bx b9 22 [v98] :: Bx b3 80 [v101, U x266, U x250, I 0] :: Bx b2 80 [.slice none 0 0, U 0, U 0, I 0] :: L) a w) ?_ ?_ | refine TC.cutX (fun a w => Mid 201 B [(4, .pointer (some ⟨b2, 0, none⟩)), (5, I (a0.length : Int)), (6, .pointer (some ⟨b3, 0, none⟩)), (8, .pointer (some ⟨b16, 0, none⟩)), (10, .pointer (some ⟨b28, 0, none⟩)), (12, .pointer (some ⟨b43, 0, none⟩)), (20, I x251)] (OwnS 138 3 v85 (y87.map cTiii) :: OwnS 4 1 v88 (y90.map cB) :: OwnS 4 1 v91 (y93.map cB) :: SS 22 3 1 cI v94 hs95 (y97) :: OwnS 3 1 v98 (y100.map cI) :: OwnS 28 1 v101 (y103.map cI) :: Bx b44 139 [.func (.func 85) #[] #[.pointer (some ⟨b22, 0, none⟩), .pointer (some ⟨b28, 0, none⟩), .pointer (some ⟨b16, 0, none⟩), .pointer (some ⟨b9, 0, none⟩), .pointer (some ⟨b43, 0, none⟩)]] :: Bx b43 136 [v85] :: Bx b28 115 [v88] :: Bx b22 115 [v91] :: Bx b16 50 [v94] :: Bx b9 22 [v98] :: Bx b3 80 [v101, U x266, U x250, I 0] :: Bx b2 80 [.slice none 0 0, U 0, U 0, I 0] :: L) a w) ?_ ?_
            · refine TC.cond rfl (fun hc268 => ?_) (fun hc268 => ?_)
              · replace hj267 := cond_t hc268 hj267
                refine TC.region ?_
                refine TO.s rfl rfl rfl (StepS.fld rfl kfieldB_80_1_1_true) ?_
                refine TO.s rfl rfl rfl (StepS.ldB rfl (Ent.at 12 rfl) kscalB_36_true rfl) ?_
                refine TO.s rfl rfl rfl (StepS.move rfl) ?_
                refine TO.s rfl rfl rfl (StepS.cvIV kintB_3_i64_true kintB_108_u64_true rfl) ?_
                refine TO.s rfl rfl rfl (StepS.shl (m := 1#32) rfl rfl (u64_nonneg _)) ?_
                refine TO.s rfl rfl rfl (StepS.bitU rfl rfl rfl) ?_
                refine TO.s rfl rfl rfl (StepS.fld rfl kfieldB_80_1_1_true) ?_
                refine TO.stB (us := [U (x249 + ((1#32) <<< (u64 x251).toNat))]) 12 [v101, U (x249 + ((1#32) <<< (u64 x251).toNat)), U x250, I 0] rfl rfl rfl ksizeB_36_1_true rfl rfl rfl (by simp [Value.oneCell']) rfl ?_
                cases hj267
                refine TO.nil fun a w e s => ?_
                exact ⟨e.sub (lk_of_allIn ⟨rfl, rfl, rfl, rfl, rfl, rfl, rfl, trivial⟩), s⟩
              · replace hj267 := cond_f hc268 hj267
                cases hj267
                refine TC.skip fun a w e s => ?_
                exact ⟨e.sub (lk_of_allIn ⟨rfl, rfl, rfl, rfl, rfl, rfl, rfl, trivial⟩), s⟩
            · intro a w ⟨he, hs⟩
              refine TC.use ?_ he hs
              refine TC.k ?_
              refine TC.region ?_
              refine TO.s rfl rfl rfl (StepS.ldB rfl (Ent.at 10 rfl) kscalB_50_true rfl) ?_
              refine TO.s rfl rfl rfl (StepS.move rfl) ?_
              obtain ⟨x269, hx270, hj263⟩ := bind_some hj263
              refine TO.s rfl rfl rfl (StepS.idxRR rfl rfl (SS.rr (Ent.at 3 rfl)) ksliceB_50_22_1_true hx270) ?_
              refine TO.s rfl rfl rfl (StepS.ldRR rfl (SS.rr (Ent.at 3 rfl)) kscalB_22_true hx270) ?_
              refine TO.s rfl rfl rfl (StepS.move rfl) ?_
              obtain ⟨r272, hc273, hj263⟩ := bind_some hj263
              refine TO.q rfl rfl rfl (StepQ.call kcallB_66_true rfl rfl (fun _ st => C66 (RR.row (SS.rr (Ent.at 3 rfl)) hx270) hc273 st)) ?_
              refine TO.code ?_
              refine TC.cond rfl (fun hc274 => ?_) (fun hc274 => ?_)
              · replace hj263 := cond_t hc274 hj263
                refine TC.region ?_
                refine TO.s rfl rfl rfl (StepS.fld rfl kfieldB_80_2_2_true) ?_
                refine TO.s rfl rfl rfl (StepS.ldB rfl (Ent.at 12 rfl) kscalB_36_true rfl) ?_
                refine TO.s rfl rfl rfl (StepS.move rfl) ?_
                refine TO.s rfl rfl rfl (StepS.cvIV kintB_3_i64_true kintB_108_u64_true rfl) ?_
                refine TO.s rfl rfl rfl (StepS.shl (m := 1#32) rfl rfl (u64_nonneg _)) ?_
                refine TO.s rfl rfl rfl (StepS.bitU rfl rfl rfl) ?_
                refine TO.s rfl rfl rfl (StepS.fld rfl kfieldB_80_2_2_true) ?_
                refine TO.stB (us := [U (x250 + ((1#32) <<< (u64 x251).toNat))]) 12 [v101, U x266, U (x250 + ((1#32) <<< (u64 x251).toNat)), I 0] rfl rfl rfl ksizeB_36_1_true rfl rfl rfl (by simp [Value.oneCell']) rfl ?_
                cases hj263
                refine TO.nil fun a w e s => ?_
                exact ⟨e.sub (lk_of_allIn ⟨rfl, rfl, rfl, rfl, rfl, rfl, rfl, trivial⟩), s⟩
              · replace hj263 := cond_f hc274 hj263
                cases hj263
                refine TC.skip fun a w e s => ?_
                exact ⟨e.sub (lk_of_allIn ⟨rfl, rfl, rfl, rfl, rfl, rfl, rfl, trivial⟩), s⟩
          · intro a w ⟨he, hs⟩
            refine TC.use ?_ he hs
            refine TC.region ?_
            refine TO.s rfl rfl rfl (StepS.move rfl) ?_
            refine TO.s rfl rfl rfl (StepS.ari rfl rfl rfl) ?_
            refine TO.s rfl rfl rfl (StepS.assign rfl) ?_
            cases hb259
            refine TO.nil fun a w e s => ?_
            exact ⟨e.sub (lk_of_allIn ⟨rfl, rfl, rfl, rfl, rfl, rfl, rfl, trivial⟩), s⟩
        · replace hb259 := cond_f hc260 hb259
          cases hb259
          refine TC.exit rfl fun a w e s => ?_
          exact ⟨e.sub (lk_of_allIn ⟨rfl, rfl, rfl, trivial⟩), s⟩
      · exact fun a w e s => ⟨e.sub (lk_of_allIn ⟨rfl, rfl, rfl, rfl, rfl, rfl, rfl, trivial⟩), s⟩
      · rintro ⟨x255, x256⟩ rfl a w ⟨he, hs⟩
        dsimp only [Ctl.on] at hm
        refine TC.use ?_ he hs
        refine TC.k ?_
        refine TC.region ?_
        refine TO.s rfl rfl rfl (StepS.ldB rfl (Ent.at 7 rfl) kscalB_136_true rfl) ?_
        refine TO.s rfl rfl rfl (StepS.lenm rfl (OwnS.rd (Ent.at 0 rfl)) ksliceB_136_138_3_true rfl) ?_
        refine TO.s rfl rfl rfl (StepS.fld rfl kfieldB_80_3_3_true) ?_
        refine TO.stB (us := [I (y87.length : Int)]) 12 [v101, U x255, U x256, I (y87.length : Int)] rfl rfl rfl ksizeB_3_1_true rfl rfl rfl (by simp [Value.oneCell']) rfl ?_
        refine TO.code ?_
        refine TC.k ?_
        refine TC.region ?_
        refine TO.s rfl rfl rfl (StepS.ldBA rfl (Ent.at 12 rfl) kaggB_80_4_true rfl rfl) ?_
        refine TO.pure (fun _ s => Rd.one (OwnS.rd (Ent.at 5 rfl)) s) fun oc275 => ?_
        refine TO.stB (us := [v101, U x255, U x256, I (y87.length : Int)]) 13 [v101, U x255, U x256, I (y87.length : Int)] rfl rfl rfl ksizeB_80_4_true rfl rfl rfl (by intro u hu; simp only [List.mem_cons, List.not_mem_nil, or_false] at hu; rcases hu with rfl | rfl | rfl | rfl <;> first | exact oc275.1 | rfl) rfl ?_
        refine TO.code ?_
        cases hm
        refine TC.ret fun a w e s => ?_
        refine FRet.cell1 (P := Try.prog) (fn := Try.f48) e s rfl rfl (Ent.at 13 rfl) kaggB_80_4_true rfl ?_
        refine ⟨_, _, rfl, ⟨(v101), rfl, rfl⟩, ?_⟩
        refine s.mono fun _ s => ?_
        replace s := Sat.front 5 rfl s
        replace s := Sat.erase 1 s
        replace s := Sat.erase 1 s
        replace s := Sat.erase 1 s
        replace s := Sat.erase 1 s
        replace s := Sat.erase 1 s
        replace s := Sat.erase 1 s
        replace s := Sat.erase 1 s
        replace s := Sat.erase 1 s
        replace s := Sat.erase 1 s
        replace s := Sat.erase 1 s
        replace s := Sat.erase 1 s
        replace s := Sat.erase 1 s
        replace s := Sat.erase 1 s
        exact s
      · rintro r rfl
        exact fun a w h => h.elim
    · rintro r rfl
      exact fun a w h => h.elim
  · rintro r rfl
    exact fun a w h => h.elim
end Go.Proofs.Ythfkdepcnhhepaa
