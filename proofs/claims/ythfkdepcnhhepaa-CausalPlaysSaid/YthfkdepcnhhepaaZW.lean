/-
  The walks: each Go function returns what its model says. Written by a program (gen.py).
-/
import Derived.Test.YthfkdepcnhhepaaProg
import Derived.KernelRfl
import Derived.Test.YthfkdepcnhhepaaKW
import Derived.Test.YthfkdepcnhhepaaZM
namespace Go.Proofs.Ythfkdepcnhhepaa
open Go Go.Bk
set_option linter.unusedVariables false
set_option linter.unnecessarySimpa false
theorem kscalB_144_true : scalB Try.prog 144 = true := by kernel_rfl
theorem kfieldB_148_0_0_true : fieldB Try.prog 148 0 0 = true := by kernel_rfl
theorem kelemB_22_3_1_8_true : elemB Try.prog 22 3 1 8 = true := by kernel_rfl
theorem kfieldB_148_2_2_true : fieldB Try.prog 148 2 2 = true := by kernel_rfl
theorem kscalB_50_true : scalB Try.prog 50 = true := by kernel_rfl
theorem kinfo_3_bind_zero_some_I_0 : (Try.prog.info? 3).bind (·.zero) = some (I 0) := by kernel_rfl
theorem ksizeB_22_1_true : sizeB Try.prog 22 1 = true := by kernel_rfl
theorem kfieldB_148_3_3_true : fieldB Try.prog 148 3 3 = true := by kernel_rfl
theorem kfieldB_148_1_1_true : fieldB Try.prog 148 1 1 = true := by kernel_rfl
theorem kscalB_145_true : scalB Try.prog 145 = true := by kernel_rfl
theorem ksliceB_145_211_2_true : sliceB Try.prog 145 211 2 = true := by kernel_rfl
theorem kfieldB_211_0_0_true : fieldB Try.prog 211 0 0 = true := by kernel_rfl
theorem ksizeB_3_1_true : sizeB Try.prog 3 1 = true := by kernel_rfl
theorem kcallB_128_true : callB Try.prog 128 = true := by kernel_rfl
theorem kunderlying_3_some_int_i64 : Try.prog.underlying 3 = some (.int .i64) := by kernel_rfl
theorem kfieldB_148_4_4_true : fieldB Try.prog 148 4 4 = true := by kernel_rfl
theorem kscalB_146_true : scalB Try.prog 146 = true := by kernel_rfl
theorem ksliceB_146_149_1_true : sliceB Try.prog 146 149 1 = true := by kernel_rfl
theorem kscalB_149_true : scalB Try.prog 149 = true := by kernel_rfl
theorem kmapGB_149_3_4_true : mapGB Try.prog 149 3 4 = true := by kernel_rfl
theorem kinfo_4_bind_zero_some_bool_false : (Try.prog.info? 4).bind (·.zero) = some (.bool false) := by kernel_rfl
theorem kcallB_84_true : callB Try.prog 84 = true := by kernel_rfl
theorem kfieldB_211_1_1_true : fieldB Try.prog 211 1 1 = true := by kernel_rfl
theorem kcallB_132_true : callB Try.prog 132 = true := by kernel_rfl
theorem kcallB_97_true : callB Try.prog 97 = true := by kernel_rfl
theorem kfieldB_106_0_0_true : fieldB Try.prog 106 0 0 = true := by kernel_rfl
theorem kcallB_96_true : callB Try.prog 96 = true := by kernel_rfl
theorem kcallB_82_true : callB Try.prog 82 = true := by kernel_rfl
theorem kelemB_145_211_2_32_true : elemB Try.prog 145 211 2 32 = true := by kernel_rfl
theorem kinfo_211_bind_zero_some_agg_I_0_slice_none_0_0 : (Try.prog.info? 211).bind (·.zero) = some (.agg #[I 0, .slice none 0 0]) := by kernel_rfl
theorem ksizeB_145_1_true : sizeB Try.prog 145 1 = true := by kernel_rfl
theorem kfieldB_106_3_3_true : fieldB Try.prog 106 3 3 = true := by kernel_rfl
theorem kcallB_98_true : callB Try.prog 98 = true := by kernel_rfl
theorem kinfo_63_bind_zero_some_agg_slice_none_0_0_slice_none_0_0 : (Try.prog.info? 63).bind (·.zero) = some (.agg #[.slice none 0 0, .slice none 0 0]) := by kernel_rfl
theorem ksliceB_23_106_4_true : sliceB Try.prog 23 106 4 = true := by kernel_rfl
theorem ksizeB_63_2_true : sizeB Try.prog 63 2 = true := by kernel_rfl
theorem kaggB_63_2_true : aggB Try.prog 63 2 = true := by kernel_rfl
theorem kelemB_50_22_1_24_true : elemB Try.prog 50 22 1 24 = true := by kernel_rfl
theorem kinfo_22_bind_zero_some_slice_none_0_0 : (Try.prog.info? 22).bind (·.zero) = some (.slice none 0 0) := by kernel_rfl
theorem ksizeB_50_1_true : sizeB Try.prog 50 1 = true := by kernel_rfl
theorem kelemB_146_149_1_8_true : elemB Try.prog 146 149 1 8 = true := by kernel_rfl
theorem kinfo_149_bind_zero_some_map_none : (Try.prog.info? 149).bind (·.zero) = some (.map none) := by kernel_rfl
theorem ksizeB_146_1_true : sizeB Try.prog 146 1 = true := by kernel_rfl
theorem kaggB_106_4_true : aggB Try.prog 106 4 = true := by kernel_rfl
theorem kinfo_106_bind_zero_some_agg_I_0_I_0_I_0_I_0 : (Try.prog.info? 106).bind (·.zero) = some (.agg #[I 0, I 0, I 0, I 0]) := by kernel_rfl
theorem ksizeB_106_4_true : sizeB Try.prog 106 4 = true := by kernel_rfl
theorem kcallB_65_true : callB Try.prog 65 = true := by kernel_rfl
theorem kelemB_24_28_1_8_true : elemB Try.prog 24 28 1 8 = true := by kernel_rfl
theorem kinfo_28_bind_zero_some_I_0 : (Try.prog.info? 28).bind (·.zero) = some (I 0) := by kernel_rfl
theorem kfieldB_63_1_1_true : fieldB Try.prog 63 1 1 = true := by kernel_rfl
theorem kfieldB_63_0_0_true : fieldB Try.prog 63 0 0 = true := by kernel_rfl
theorem kscalB_24_true : scalB Try.prog 24 = true := by kernel_rfl
theorem ksizeB_24_1_true : sizeB Try.prog 24 1 = true := by kernel_rfl
theorem kcallB_66_true : callB Try.prog 66 = true := by kernel_rfl
theorem kcallB_31_true : callB Try.prog 31 = true := by kernel_rfl
theorem kcallB_21_true : callB Try.prog 21 = true := by kernel_rfl
theorem kcallB_32_true : callB Try.prog 32 = true := by kernel_rfl
theorem kcallB_18_true : callB Try.prog 18 = true := by kernel_rfl
theorem kcallB_28_true : callB Try.prog 28 = true := by kernel_rfl

set_option maxRecDepth 100000 in
theorem C96 {B : World} {L : List HP} {a0 : Int} {a1_0 : Int} {b1_ : Nat} {c1_ : Nat} {u1_1_0 : Value} {u1_2_0 : Value} {u1_3_0 : Value} {u1_4_0 : Value} {r0 : Bool} (g1 : Ent L (Bx b1_ 144 [.pointer (some ⟨c1_, 0, none⟩)])) (gg1 : Ent L (Bx c1_ 148 [I a1_0, u1_1_0, u1_2_0, u1_3_0, u1_4_0])) (hm : F96 a0 a1_0 = some r0) {w : World} (st : St B L w) : Calls Try.prog 96 #[I a0, .pointer (some ⟨b1_, 0, none⟩)] w (fun e w' => (e = .returned (.bool r0) ∧ St B (L) w')) := by
  refine calls_of (N := 14) (L := L) (args := [I a0, .pointer (some ⟨b1_, 0, none⟩)]) Try.func96 rfl rfl rfl ?_ st
  dsimp only [F96] at hm
  refine TC.k ?_
  refine TC.region ?_
  refine TO.s rfl rfl rfl (StepS.assign rfl) ?_
  refine TO.code ?_
  refine TC.k ?_
  refine TC.region ?_
  refine TO.s rfl rfl rfl (StepS.move rfl) ?_
  refine TO.s rfl rfl rfl (StepS.cmp rfl rfl rfl) ?_
  refine TO.s rfl rfl rfl (StepS.move rfl) ?_
  refine TO.mid1 7 13 (.bool ((decide (a0 < 0)) || (decide (a0 ≥ a1_0)))) ?_ ?_
  · refine bcase ((decide (a0 < 0))) (fun hb1 => ?_) (fun hb1 => ?_)
    · refine TO.skip rfl rfl rfl (skipT hb1) rfl rfl ?_
      refine TO.skip rfl rfl rfl (skipT hb1) rfl rfl ?_
      refine TO.skip rfl rfl rfl (skipT hb1) rfl rfl ?_
      refine TO.skip rfl rfl rfl (skipT hb1) rfl rfl ?_
      refine TO.skip rfl rfl rfl (skipT hb1) rfl rfl ?_
      refine TO.skip rfl rfl rfl (skipT hb1) rfl rfl ?_
      refine TO.s rfl rfl rfl (StepS.pickT rfl hb1 rfl) ?_
      exact TO.up1 7 0 rfl rfl (by rw [hb1]; rfl) rfl
    · refine TO.sw rfl rfl rfl hb1 rfl rfl (StepS.move rfl) ?_
      refine TO.sw rfl rfl rfl hb1 rfl rfl (StepS.ldB rfl g1 kscalB_144_true rfl) ?_
      refine TO.sw rfl rfl rfl hb1 rfl rfl (StepS.nilc rfl) ?_
      refine TO.sw rfl rfl rfl hb1 rfl rfl (StepS.fld rfl kfieldB_148_0_0_true) ?_
      refine TO.sw rfl rfl rfl hb1 rfl rfl (StepS.ldB rfl gg1 kscalB_3_true rfl) ?_
      refine TO.sw rfl rfl rfl hb1 rfl rfl (StepS.cmp rfl rfl rfl) ?_
      refine TO.s rfl rfl rfl (StepS.pickF rfl hb1 rfl) ?_
      exact TO.up1 7 0 rfl rfl (by rw [hb1]; rfl) rfl
  refine TO.s rfl rfl rfl (StepS.assign rfl) ?_
  refine TO.code ?_
  cases hm
  refine TC.ret fun a w e s => ?_
  refine FRet.mk1 (P := Try.prog) (fn := Try.f96) (t := 3) e rfl rfl ?_
  exact ⟨rfl, s.mono fun _ => Sat.dropN 0⟩

set_option maxRecDepth 100000 in
theorem C82 {B : World} {L : List HP} {a0 : List Int} {h0 : Value} {r0 : List Int} (e0 : Ent L (Rd 1 h0 (a0.map cI))) (hm : F82 a0 = some r0) {w : World} (st : St B L w) : Calls Try.prog 82 #[h0] w (fun e w' => ∃ v M, e = .returned v ∧ (∃ (qr0 : Value), v = qr0 ∧ M = (OwnS 3 1 qr0 (r0.map cI) :: L)) ∧ St B M w') := by
  refine calls_of (N := 8) (L := L) (args := [h0]) Try.func82 rfl rfl rfl ?_ st
  dsimp only [F82] at hm
  refine TC.k ?_
  refine TC.region ?_
  refine TO.s rfl rfl rfl (StepS.assign rfl) ?_
  refine TO.code ?_
  refine TC.k ?_
  refine TC.k ?_
  refine TC.region ?_
  refine TO.s rfl rfl rfl (StepS.move rfl) ?_
  refine TO.nilck rfl e0 ksliceB_22_3_1_true rfl fun b hb => ?_
  refine TO.code ?_
  refine TC.cond rfl (fun hc => ?_) (fun hc => ?_)
  · have hn : a0 = [] := by simpa using hb hc
    subst hn
    have hr : r0 = [] := by simpa using (appl_spec hm).2.2
    subst hr
    refine TC.k ?_
    refine TC.region ?_
    refine TO.s rfl rfl rfl (StepS.assign rfl) ?_
    refine TO.code ?_
    refine TC.ret fun a w e s => ?_
    refine FRet.mk1 (P := Try.prog) (fn := Try.f82) (t := 2) e rfl rfl ?_
    exact ⟨_, _, rfl, ⟨_, rfl, rfl⟩, s.mono fun _ s => Sat.nilS s⟩
  · refine TC.skipk ?_
    refine TC.k ?_
    refine TC.region ?_
    refine TO.lit0 (f := cI) ksliceB_22_3_1_true rfl fun v1 => ?_
    refine TO.s rfl rfl rfl (StepS.move rfl) ?_
    refine TO.app (k := 0) (f := cI) kelemB_22_3_1_8_true (by decide) rfl rfl rfl e0.tl hm (fun x c hc => by simp [Value.oneCell'] at hc ⊢; first | (obtain rfl := hc; rfl) | (rcases hc with rfl <;> rfl)) rfl rfl fun v2 => ?_
    refine TO.s rfl rfl rfl (StepS.assign rfl) ?_
    refine TO.code ?_
    refine TC.ret fun a w e s => ?_
    refine FRet.mk1 (P := Try.prog) (fn := Try.f82) (t := 2) e rfl rfl ?_
    exact ⟨_, _, rfl, ⟨_, rfl, rfl⟩, s⟩

set_option maxRecDepth 100000 in
theorem C97 {B : World} {L : List HP} {a0 : (List (Int × List Int)) × (List (List Int)) × List (List Int)} {a1 : Int} {a2 : Int} {b0_ : Nat} {u0_0 : Value} {u0_4 : Value} {h0_1 : Value} {h0_2 : List (List Value)} {h0_3 : Value} {h0_4 : List Value} {h0_5 : Value} {h0_6 : List Value} {s0 : (List (Int × List Int)) × (List (List Int)) × List (List Int)} (hm : F97 a0 a1 a2 = some s0) {w : World} (st : St B (Bx b0_ 148 [u0_0, h0_1, h0_3, h0_5, u0_4] :: SN 211 2 nT211 h0_1 h0_2 (a0.1) :: SS 22 3 1 cI h0_3 h0_4 (a0.2.1) :: SS 22 3 1 cI h0_5 h0_6 (a0.2.2) :: L) w) : Calls Try.prog 97 #[.pointer (some ⟨b0_, 0, none⟩), I a1, I a2] w (fun e w' => ∃ v M, e = .returned v ∧ (∃ (qhs1 : List (List Value)) (qhs2 : List Value) (qhs3 : List Value), v = .tuple #[] ∧ M = (Bx b0_ 148 [u0_0, h0_1, h0_3, h0_5, u0_4] :: SN 211 2 nT211 h0_1 qhs1 (s0.1) :: SS 22 3 1 cI h0_3 qhs2 (s0.2.1) :: SS 22 3 1 cI h0_5 qhs3 (s0.2.2) :: L)) ∧ St B M w') := by
  refine calls_of (N := 41) (L := (Bx b0_ 148 [u0_0, h0_1, h0_3, h0_5, u0_4] :: SN 211 2 nT211 h0_1 h0_2 (a0.1) :: SS 22 3 1 cI h0_3 h0_4 (a0.2.1) :: SS 22 3 1 cI h0_5 h0_6 (a0.2.2) :: L)) (args := [.pointer (some ⟨b0_, 0, none⟩), I a1, I a2]) Try.func97 rfl rfl rfl ?_ st
  dsimp only [F97] at hm
  refine TC.k ?_
  obtain ⟨y8, hj10, hm⟩ := bind_some hm
  first | refine TC.cutM (fun a w => ∃ hs9 : List Value, Mid 41 B [(0, .pointer (some ⟨b0_, 0, none⟩)), (1, I a1), (2, I a2)] (Bx b0_ 148 [u0_0, h0_1, h0_3, h0_5, u0_4] :: SN 211 2 nT211 h0_1 h0_2 (a0.1) :: SS 22 3 1 cI h0_3 hs9 (y8) :: SS 22 3 1 cI h0_5 h0_6 (a0.2.2) :: L) a w) ?_ ?_ | refine TC.cutX (fun a w => ∃ hs9 : List Value, Mid 41 B [(0, .pointer (some ⟨b0_, 0, none⟩)), (1, I a1), (2, I a2)] (Bx b0_ 148 [u0_0, h0_1, h0_3, h0_5, u0_4] :: SN 211 2 nT211 h0_1 h0_2 (a0.1) :: SS 22 3 1 cI h0_3 hs9 (y8) :: SS 22 3 1 cI h0_5 h0_6 (a0.2.2) :: L) a w) ?_ ?_
  · obtain ⟨xq7_10_1, hxq7_10_2, hj10⟩ := bind_some hj10
    obtain ⟨yq7_14_2, hkq7_14_3, hj10⟩ := bind_some hj10
    obtain ⟨xq7_15_1, hxq7_15_2, hj10⟩ := bind_some hj10
    refine TC.region_any (Bx b0_ 148 [u0_0, h0_1, h0_3, h0_5, u0_4] :: SN 211 2 nT211 h0_1 h0_2 (a0.1) :: SS 22 3 1 cI h0_5 h0_6 (a0.2.2) :: L) 16 17 kfollows_mixedOrders_true rfl ?_
    refine TA.takeW 0 rfl rfl rfl rfl (StepS.move rfl) (by kernel_rfl) (by kernel_rfl) (by kernel_rfl) rfl (.inr (fun _ s => Sat.by [3, 2, 2] 3 1 (by kernel_rfl) s)) ?_
    refine TA.takeW 1 rfl rfl rfl rfl (StepS.nilc rfl) (by kernel_rfl) (by kernel_rfl) (by kernel_rfl) rfl (.inr (fun _ s => Sat.by [3, 2, 2] 3 1 (by kernel_rfl) s)) ?_
    refine TA.takeW 2 rfl rfl rfl rfl (StepS.fld rfl kfieldB_148_2_2_true) (by kernel_rfl) (by kernel_rfl) (by kernel_rfl) rfl (.inr (fun _ s => Sat.by [3, 2, 2] 3 1 (by kernel_rfl) s)) ?_
    refine TA.take 3 rfl rfl rfl rfl (StepS.ldB rfl (Ent.at 0 rfl) kscalB_50_true rfl) (by kernel_rfl) (by kernel_rfl) (by kernel_rfl) (by kernel_rfl) (by kernel_rfl) (fun _ s => Sat.by [3, 2, 2] 3 1 (by kernel_rfl) s) ?_
    refine TA.takeW 4 rfl rfl rfl rfl (StepS.move rfl) (by kernel_rfl) (by kernel_rfl) (by kernel_rfl) rfl (.inr (fun _ s => Sat.by [3, 2, 2] 3 1 (by kernel_rfl) s)) ?_
    refine TA.takeW 5 rfl rfl rfl rfl (StepS.move rfl) (by kernel_rfl) (by kernel_rfl) (by kernel_rfl) rfl (.inr (fun _ s => Sat.by [3, 2, 2] 3 1 (by kernel_rfl) s)) ?_
    refine TA.takeW 6 rfl rfl rfl rfl (StepS.nilc rfl) (by kernel_rfl) (by kernel_rfl) (by kernel_rfl) rfl (.inr (fun _ s => Sat.by [3, 2, 2] 3 1 (by kernel_rfl) s)) ?_
    refine TA.takeW 7 rfl rfl rfl rfl (StepS.fld rfl kfieldB_148_2_2_true) (by kernel_rfl) (by kernel_rfl) (by kernel_rfl) rfl (.inr (fun _ s => Sat.by [3, 2, 2] 3 1 (by kernel_rfl) s)) ?_
    refine TA.take 8 rfl rfl rfl rfl (StepS.ldB rfl (Ent.at 0 rfl) kscalB_50_true rfl) (by kernel_rfl) (by kernel_rfl) (by kernel_rfl) (by kernel_rfl) (by kernel_rfl) (fun _ s => Sat.by [3, 2, 2] 3 1 (by kernel_rfl) s) ?_
    refine TA.takeW 9 rfl rfl rfl rfl (StepS.move rfl) (by kernel_rfl) (by kernel_rfl) (by kernel_rfl) rfl (.inr (fun _ s => Sat.by [3, 2, 2] 3 1 (by kernel_rfl) s)) ?_
    refine TA.takeW 12 rfl rfl rfl rfl (StepS.move rfl) (by kernel_rfl) (by kernel_rfl) (by kernel_rfl) rfl (.inr (fun _ s => Sat.by [3, 2, 2] 3 1 (by kernel_rfl) s)) ?_
    refine TA.all2 (i := 10) (j := 13) (by kernel_rfl) ?_ ?_
    · refine TB.of rfl ?_
      refine TO.s rfl rfl rfl (StepS.idxRR rfl rfl (SS.rr (Ent.at 2 rfl)) ksliceB_50_22_1_true hxq7_10_2) ?_
      refine TA.back (.inr (fun _ s => Sat.by [3, 2, 2] 3 1 (by kernel_rfl) s)) ?_
      refine TA.asL (L' := (Bx b0_ 148 [u0_0, h0_1, h0_3, h0_5, u0_4] :: SN 211 2 nT211 h0_1 h0_2 (a0.1) :: SS 22 3 1 cI h0_3 h0_4 (a0.2.1) :: SS 22 3 1 cI h0_5 h0_6 (a0.2.2) :: L)) (listed' := #[true, true, true, true, true, true, true, true, true, true, true, false, true, false, false, false, false]) (by kernel_rfl) (by kernel_rfl) ?_
      refine TA.all2 (i := 11) (j := 13) (by kernel_rfl) ?_ ?_
      · refine TB.of rfl ?_
        refine TO.s rfl rfl rfl (StepS.ldRR rfl (SS.rr (Ent.at 2 rfl)) kscalB_22_true hxq7_10_2) ?_
        refine TA.back (.inr (fun _ s => Sat.by [3, 2, 2] 3 1 (by kernel_rfl) s)) ?_
        refine TA.asL (L' := (Bx b0_ 148 [u0_0, h0_1, h0_3, h0_5, u0_4] :: SN 211 2 nT211 h0_1 h0_2 (a0.1) :: SS 22 3 1 cI h0_3 h0_4 (a0.2.1) :: SS 22 3 1 cI h0_5 h0_6 (a0.2.2) :: L)) (listed' := #[true, true, true, true, true, true, true, true, true, true, true, true, true, false, false, false, false]) (by kernel_rfl) (by kernel_rfl) ?_
        refine TA.all1 (i := 13) (by kernel_rfl) ?_
        refine TB.of rfl ?_
        refine TO.litS (f := cI) ([a2] : List Int) kelemB_22_3_1_8_true kinfo_3_bind_zero_some_I_0 rfl rfl (fun _ => rfl) rfl rfl (by kernel_rfl) rfl fun vq7_13_1 => ?_
        refine TA.back (.inr (fun _ s => Sat.by [4, 3, 3] 3 2 (by kernel_rfl) s)) ?_
        refine TA.asL (L' := (OwnS 3 1 vq7_13_1 (([a2] : List Int).map cI) :: Bx b0_ 148 [u0_0, h0_1, h0_3, h0_5, u0_4] :: SN 211 2 nT211 h0_1 h0_2 (a0.1) :: SS 22 3 1 cI h0_3 h0_4 (a0.2.1) :: SS 22 3 1 cI h0_5 h0_6 (a0.2.2) :: L)) (listed' := #[true, true, true, true, true, true, true, true, true, true, true, true, true, true, false, false, false]) (by kernel_rfl) (by kernel_rfl) ?_
        refine TA.all1 (i := 14) (by kernel_rfl) ?_
        refine TB.of rfl ?_
        refine TO.ghost (fun _ s => Sat.front 3 rfl s) ?_
        refine TO.ghost (fun _ s => Sat.openRow hxq7_10_2 s) ?_
        refine TO.app (k := 0) (f := cI) kelemB_22_3_1_8_true (by decide) rfl rfl rfl (OwnS.rd (Ent.at 2 rfl)) hkq7_14_3 (fun x c hc => by simp [Value.oneCell'] at hc ⊢; first | (obtain rfl := hc; rfl) | (rcases hc with rfl <;> rfl)) rfl rfl fun vq7_14_4 => ?_
        refine TA.back (.inr (fun _ s => Sat.by [5, 5, 5] 3 3 (by kernel_rfl) s)) ?_
        refine TA.asL (L' := (OwnS 3 1 vq7_14_4 (yq7_14_2.map cI) :: SSh 22 3 1 cI h0_3 h0_4 (a0.2.1) a1.toNat :: OwnS 3 1 vq7_13_1 (([a2] : List Int).map cI) :: Bx b0_ 148 [u0_0, h0_1, h0_3, h0_5, u0_4] :: SN 211 2 nT211 h0_1 h0_2 (a0.1) :: SS 22 3 1 cI h0_5 h0_6 (a0.2.2) :: L)) (listed' := #[true, true, true, true, true, true, true, true, true, true, true, true, true, true, true, false, false]) (by kernel_rfl) (by kernel_rfl) ?_
        refine TA.all1 (i := 15) (by kernel_rfl) ?_
        refine TB.of rfl ?_
        refine TO.s rfl rfl rfl (StepS.idxRH rfl rfl (Ent.at 1 rfl) ksliceB_50_22_1_true hxq7_15_2) ?_
        refine TA.back (.inr (fun _ s => Sat.by [5, 5, 5] 3 3 (by kernel_rfl) s)) ?_
        refine TA.asL (L' := (OwnS 3 1 vq7_14_4 (yq7_14_2.map cI) :: SSh 22 3 1 cI h0_3 h0_4 (a0.2.1) a1.toNat :: OwnS 3 1 vq7_13_1 (([a2] : List Int).map cI) :: Bx b0_ 148 [u0_0, h0_1, h0_3, h0_5, u0_4] :: SN 211 2 nT211 h0_1 h0_2 (a0.1) :: SS 22 3 1 cI h0_5 h0_6 (a0.2.2) :: L)) (listed' := #[true, true, true, true, true, true, true, true, true, true, true, true, true, true, true, true, false]) (by kernel_rfl) (by kernel_rfl) ?_
        refine TA.all1 (i := 16) (by kernel_rfl) ?_
        refine TB.of rfl ?_
        refine TO.ghost (fun _ s => Sat.front 1 rfl s) ?_
        refine TO.stRowH (xs := yq7_14_2) rfl rfl hxq7_15_2 ksizeB_22_1_true ?_
        refine TA.back (.inl (by kernel_rfl)) ?_
        refine TA.asL (L' := (SS 22 3 1 cI h0_3 (h0_4.set a1.toNat vq7_14_4) (a0.2.1.set a1.toNat yq7_14_2) :: OwnS 3 1 vq7_13_1 (([a2] : List Int).map cI) :: Bx b0_ 148 [u0_0, h0_1, h0_3, h0_5, u0_4] :: SN 211 2 nT211 h0_1 h0_2 (a0.1) :: SS 22 3 1 cI h0_5 h0_6 (a0.2.2) :: L)) (listed' := #[true, true, true, true, true, true, true, true, true, true, true, true, true, true, true, true, true]) (by kernel_rfl) (by kernel_rfl) ?_
        cases hj10
        refine TA.nil (by kernel_rfl) fun a w e s => ?_
        exact ⟨(h0_4.set a1.toNat vq7_14_4), e.sub (lk_of_allIn ⟨rfl, rfl, rfl, trivial⟩), s.mono fun _ s => (by exact Sat.by [4, 1, 4, 4] 4 1 (by kernel_rfl) s)⟩
      · refine TB.of rfl ?_
        refine TO.litS (f := cI) ([a2] : List Int) kelemB_22_3_1_8_true kinfo_3_bind_zero_some_I_0 rfl rfl (fun _ => rfl) rfl rfl (by kernel_rfl) rfl fun vq7_13_1 => ?_
        refine TA.back (.inr (fun _ s => Sat.by [4, 3, 3] 3 2 (by kernel_rfl) s)) ?_
        refine TA.asL (L' := (OwnS 3 1 vq7_13_1 (([a2] : List Int).map cI) :: Bx b0_ 148 [u0_0, h0_1, h0_3, h0_5, u0_4] :: SN 211 2 nT211 h0_1 h0_2 (a0.1) :: SS 22 3 1 cI h0_3 h0_4 (a0.2.1) :: SS 22 3 1 cI h0_5 h0_6 (a0.2.2) :: L)) (listed' := #[true, true, true, true, true, true, true, true, true, true, true, false, true, true, false, false, false]) (by kernel_rfl) (by kernel_rfl) ?_
        refine TA.all1 (i := 11) (by kernel_rfl) ?_
        refine TB.of rfl ?_
        refine TO.s rfl rfl rfl (StepS.ldRR rfl (SS.rr (Ent.at 3 rfl)) kscalB_22_true hxq7_10_2) ?_
        refine TA.back (.inr (fun _ s => Sat.by [4, 3, 3] 3 2 (by kernel_rfl) s)) ?_
        refine TA.asL (L' := (OwnS 3 1 vq7_13_1 (([a2] : List Int).map cI) :: Bx b0_ 148 [u0_0, h0_1, h0_3, h0_5, u0_4] :: SN 211 2 nT211 h0_1 h0_2 (a0.1) :: SS 22 3 1 cI h0_3 h0_4 (a0.2.1) :: SS 22 3 1 cI h0_5 h0_6 (a0.2.2) :: L)) (listed' := #[true, true, true, true, true, true, true, true, true, true, true, true, true, true, false, false, false]) (by kernel_rfl) (by kernel_rfl) ?_
        refine TA.all1 (i := 14) (by kernel_rfl) ?_
        refine TB.of rfl ?_
        refine TO.ghost (fun _ s => Sat.front 3 rfl s) ?_
        refine TO.ghost (fun _ s => Sat.openRow hxq7_10_2 s) ?_
        refine TO.app (k := 0) (f := cI) kelemB_22_3_1_8_true (by decide) rfl rfl rfl (OwnS.rd (Ent.at 2 rfl)) hkq7_14_3 (fun x c hc => by simp [Value.oneCell'] at hc ⊢; first | (obtain rfl := hc; rfl) | (rcases hc with rfl <;> rfl)) rfl rfl fun vq7_14_4 => ?_
        refine TA.back (.inr (fun _ s => Sat.by [5, 5, 5] 3 3 (by kernel_rfl) s)) ?_
        refine TA.asL (L' := (OwnS 3 1 vq7_14_4 (yq7_14_2.map cI) :: SSh 22 3 1 cI h0_3 h0_4 (a0.2.1) a1.toNat :: OwnS 3 1 vq7_13_1 (([a2] : List Int).map cI) :: Bx b0_ 148 [u0_0, h0_1, h0_3, h0_5, u0_4] :: SN 211 2 nT211 h0_1 h0_2 (a0.1) :: SS 22 3 1 cI h0_5 h0_6 (a0.2.2) :: L)) (listed' := #[true, true, true, true, true, true, true, true, true, true, true, true, true, true, true, false, false]) (by kernel_rfl) (by kernel_rfl) ?_
        refine TA.all1 (i := 15) (by kernel_rfl) ?_
        refine TB.of rfl ?_
        refine TO.s rfl rfl rfl (StepS.idxRH rfl rfl (Ent.at 1 rfl) ksliceB_50_22_1_true hxq7_15_2) ?_
        refine TA.back (.inr (fun _ s => Sat.by [5, 5, 5] 3 3 (by kernel_rfl) s)) ?_
        refine TA.asL (L' := (OwnS 3 1 vq7_14_4 (yq7_14_2.map cI) :: SSh 22 3 1 cI h0_3 h0_4 (a0.2.1) a1.toNat :: OwnS 3 1 vq7_13_1 (([a2] : List Int).map cI) :: Bx b0_ 148 [u0_0, h0_1, h0_3, h0_5, u0_4] :: SN 211 2 nT211 h0_1 h0_2 (a0.1) :: SS 22 3 1 cI h0_5 h0_6 (a0.2.2) :: L)) (listed' := #[true, true, true, true, true, true, true, true, true, true, true, true, true, true, true, true, false]) (by kernel_rfl) (by kernel_rfl) ?_
        refine TA.all1 (i := 16) (by kernel_rfl) ?_
        refine TB.of rfl ?_
        refine TO.ghost (fun _ s => Sat.front 1 rfl s) ?_
        refine TO.stRowH (xs := yq7_14_2) rfl rfl hxq7_15_2 ksizeB_22_1_true ?_
        refine TA.back (.inl (by kernel_rfl)) ?_
        refine TA.asL (L' := (SS 22 3 1 cI h0_3 (h0_4.set a1.toNat vq7_14_4) (a0.2.1.set a1.toNat yq7_14_2) :: OwnS 3 1 vq7_13_1 (([a2] : List Int).map cI) :: Bx b0_ 148 [u0_0, h0_1, h0_3, h0_5, u0_4] :: SN 211 2 nT211 h0_1 h0_2 (a0.1) :: SS 22 3 1 cI h0_5 h0_6 (a0.2.2) :: L)) (listed' := #[true, true, true, true, true, true, true, true, true, true, true, true, true, true, true, true, true]) (by kernel_rfl) (by kernel_rfl) ?_
        cases hj10
        refine TA.nil (by kernel_rfl) fun a w e s => ?_
        exact ⟨(h0_4.set a1.toNat vq7_14_4), e.sub (lk_of_allIn ⟨rfl, rfl, rfl, trivial⟩), s.mono fun _ s => (by exact Sat.by [4, 1, 4, 4] 4 1 (by kernel_rfl) s)⟩
    · refine TB.of rfl ?_
      refine TO.litS (f := cI) ([a2] : List Int) kelemB_22_3_1_8_true kinfo_3_bind_zero_some_I_0 rfl rfl (fun _ => rfl) rfl rfl (by kernel_rfl) rfl fun vq7_13_1 => ?_
      refine TA.back (.inr (fun _ s => Sat.by [4, 3, 3] 3 2 (by kernel_rfl) s)) ?_
      refine TA.asL (L' := (OwnS 3 1 vq7_13_1 (([a2] : List Int).map cI) :: Bx b0_ 148 [u0_0, h0_1, h0_3, h0_5, u0_4] :: SN 211 2 nT211 h0_1 h0_2 (a0.1) :: SS 22 3 1 cI h0_3 h0_4 (a0.2.1) :: SS 22 3 1 cI h0_5 h0_6 (a0.2.2) :: L)) (listed' := #[true, true, true, true, true, true, true, true, true, true, false, false, true, true, false, false, false]) (by kernel_rfl) (by kernel_rfl) ?_
      refine TA.all1 (i := 10) (by kernel_rfl) ?_
      refine TB.of rfl ?_
      refine TO.s rfl rfl rfl (StepS.idxRR rfl rfl (SS.rr (Ent.at 3 rfl)) ksliceB_50_22_1_true hxq7_10_2) ?_
      refine TA.back (.inr (fun _ s => Sat.by [4, 3, 3] 3 2 (by kernel_rfl) s)) ?_
      refine TA.asL (L' := (OwnS 3 1 vq7_13_1 (([a2] : List Int).map cI) :: Bx b0_ 148 [u0_0, h0_1, h0_3, h0_5, u0_4] :: SN 211 2 nT211 h0_1 h0_2 (a0.1) :: SS 22 3 1 cI h0_3 h0_4 (a0.2.1) :: SS 22 3 1 cI h0_5 h0_6 (a0.2.2) :: L)) (listed' := #[true, true, true, true, true, true, true, true, true, true, true, false, true, true, false, false, false]) (by kernel_rfl) (by kernel_rfl) ?_
      refine TA.all1 (i := 11) (by kernel_rfl) ?_
      refine TB.of rfl ?_
      refine TO.s rfl rfl rfl (StepS.ldRR rfl (SS.rr (Ent.at 3 rfl)) kscalB_22_true hxq7_10_2) ?_
      refine TA.back (.inr (fun _ s => Sat.by [4, 3, 3] 3 2 (by kernel_rfl) s)) ?_
      refine TA.asL (L' := (OwnS 3 1 vq7_13_1 (([a2] : List Int).map cI) :: Bx b0_ 148 [u0_0, h0_1, h0_3, h0_5, u0_4] :: SN 211 2 nT211 h0_1 h0_2 (a0.1) :: SS 22 3 1 cI h0_3 h0_4 (a0.2.1) :: SS 22 3 1 cI h0_5 h0_6 (a0.2.2) :: L)) (listed' := #[true, true, true, true, true, true, true, true, true, true, true, true, true, true, false, false, false]) (by kernel_rfl) (by kernel_rfl) ?_
      refine TA.all1 (i := 14) (by kernel_rfl) ?_
      refine TB.of rfl ?_
      refine TO.ghost (fun _ s => Sat.front 3 rfl s) ?_
      refine TO.ghost (fun _ s => Sat.openRow hxq7_10_2 s) ?_
      refine TO.app (k := 0) (f := cI) kelemB_22_3_1_8_true (by decide) rfl rfl rfl (OwnS.rd (Ent.at 2 rfl)) hkq7_14_3 (fun x c hc => by simp [Value.oneCell'] at hc ⊢; first | (obtain rfl := hc; rfl) | (rcases hc with rfl <;> rfl)) rfl rfl fun vq7_14_4 => ?_
      refine TA.back (.inr (fun _ s => Sat.by [5, 5, 5] 3 3 (by kernel_rfl) s)) ?_
      refine TA.asL (L' := (OwnS 3 1 vq7_14_4 (yq7_14_2.map cI) :: SSh 22 3 1 cI h0_3 h0_4 (a0.2.1) a1.toNat :: OwnS 3 1 vq7_13_1 (([a2] : List Int).map cI) :: Bx b0_ 148 [u0_0, h0_1, h0_3, h0_5, u0_4] :: SN 211 2 nT211 h0_1 h0_2 (a0.1) :: SS 22 3 1 cI h0_5 h0_6 (a0.2.2) :: L)) (listed' := #[true, true, true, true, true, true, true, true, true, true, true, true, true, true, true, false, false]) (by kernel_rfl) (by kernel_rfl) ?_
      refine TA.all1 (i := 15) (by kernel_rfl) ?_
      refine TB.of rfl ?_
      refine TO.s rfl rfl rfl (StepS.idxRH rfl rfl (Ent.at 1 rfl) ksliceB_50_22_1_true hxq7_15_2) ?_
      refine TA.back (.inr (fun _ s => Sat.by [5, 5, 5] 3 3 (by kernel_rfl) s)) ?_
      refine TA.asL (L' := (OwnS 3 1 vq7_14_4 (yq7_14_2.map cI) :: SSh 22 3 1 cI h0_3 h0_4 (a0.2.1) a1.toNat :: OwnS 3 1 vq7_13_1 (([a2] : List Int).map cI) :: Bx b0_ 148 [u0_0, h0_1, h0_3, h0_5, u0_4] :: SN 211 2 nT211 h0_1 h0_2 (a0.1) :: SS 22 3 1 cI h0_5 h0_6 (a0.2.2) :: L)) (listed' := #[true, true, true, true, true, true, true, true, true, true, true, true, true, true, true, true, false]) (by kernel_rfl) (by kernel_rfl) ?_
      refine TA.all1 (i := 16) (by kernel_rfl) ?_
      refine TB.of rfl ?_
      refine TO.ghost (fun _ s => Sat.front 1 rfl s) ?_
      refine TO.stRowH (xs := yq7_14_2) rfl rfl hxq7_15_2 ksizeB_22_1_true ?_
      refine TA.back (.inl (by kernel_rfl)) ?_
      refine TA.asL (L' := (SS 22 3 1 cI h0_3 (h0_4.set a1.toNat vq7_14_4) (a0.2.1.set a1.toNat yq7_14_2) :: OwnS 3 1 vq7_13_1 (([a2] : List Int).map cI) :: Bx b0_ 148 [u0_0, h0_1, h0_3, h0_5, u0_4] :: SN 211 2 nT211 h0_1 h0_2 (a0.1) :: SS 22 3 1 cI h0_5 h0_6 (a0.2.2) :: L)) (listed' := #[true, true, true, true, true, true, true, true, true, true, true, true, true, true, true, true, true]) (by kernel_rfl) (by kernel_rfl) ?_
      cases hj10
      refine TA.nil (by kernel_rfl) fun a w e s => ?_
      exact ⟨(h0_4.set a1.toNat vq7_14_4), e.sub (lk_of_allIn ⟨rfl, rfl, rfl, trivial⟩), s.mono fun _ s => (by exact Sat.by [4, 1, 4, 4] 4 1 (by kernel_rfl) s)⟩
  · intro a w ⟨hs9, he, hs⟩
    refine TC.use ?_ he hs
    refine TC.region_tail 19 kfollows_mixedOrders_true (by kernel_rfl) ?_
    refine TS.s rfl rfl rfl (StepS.move rfl) ?_
    refine TS.s rfl rfl rfl (StepS.nilc rfl) ?_
    refine TS.s rfl rfl rfl (StepS.fld rfl kfieldB_148_3_3_true) ?_
    refine TS.s rfl rfl rfl (StepS.ldB rfl (Ent.at 0 rfl) kscalB_50_true rfl) ?_
    refine TS.s rfl rfl rfl (StepS.move rfl) ?_
    obtain ⟨x11, hx12, hm⟩ := bind_some hm
    refine TS.s rfl rfl rfl (StepS.idxRR rfl rfl (SS.rr (Ent.at 3 rfl)) ksliceB_50_22_1_true hx12) ?_
    refine TS.s rfl rfl rfl (StepS.ldRR rfl (SS.rr (Ent.at 3 rfl)) kscalB_22_true hx12) ?_
    refine TS.s rfl rfl rfl (StepS.move rfl) ?_
    refine TS.s rfl rfl rfl (StepS.nilc rfl) ?_
    refine TS.s rfl rfl rfl (StepS.fld rfl kfieldB_148_1_1_true) ?_
    refine TS.s rfl rfl rfl (StepS.ldB rfl (Ent.at 0 rfl) kscalB_145_true rfl) ?_
    refine TS.s rfl rfl rfl (StepS.move rfl) ?_
    obtain ⟨x14, hx15, hm⟩ := bind_some hm
    refine TS.s rfl rfl rfl (StepS.idxN rfl rfl (Ent.at 1 rfl) ksliceB_145_211_2_true hx15) ?_
    refine TS.s rfl rfl rfl (StepS.ptrf rfl kfieldB_211_0_0_true) ?_
    refine TS.s rfl rfl rfl (StepS.ldN (j := 0) rfl (Ent.at 1 rfl) kscalB_3_true hx15 rfl rfl) ?_
    obtain ⟨x16, hx17, hm⟩ := bind_some hm
    refine TS.s rfl rfl rfl (StepS.idx rfl rfl (RR.row (SS.rr (Ent.at 3 rfl)) hx12) ksliceB_22_3_1_true (idx_spec hx17).1 (idxm_lt hx17)) ?_
    refine TS.s rfl rfl rfl (StepS.ld0 rfl (RR.row (SS.rr (Ent.at 3 rfl)) hx12) kscalB_3_true rfl (idxm hx17) rfl) ?_
    refine TS.s rfl rfl rfl (StepS.ari rfl rfl rfl) ?_
    obtain ⟨x18, hx19, hm⟩ := bind_some hm
    refine TS.s rfl rfl rfl (StepS.idx rfl rfl (RR.row (SS.rr (Ent.at 3 rfl)) hx12) ksliceB_22_3_1_true (idx_spec hx19).1 (idxm_lt hx19)) ?_
    refine TS.nil ?_
    refine TO.at ?_
    refine TO.ghost (fun _ s => Sat.front 3 rfl s) ?_
    refine TO.stEl (i := a1) (j := x14.1.toNat) (off := 0) (us := [I (w64 (x16 + 1))]) (w64 (x16 + 1)) rfl rfl hx12 ksizeB_3_1_true rfl rfl rfl (idx_spec hx19).2 rfl (by simp [Value.oneCell']) rfl ?_
    cases hm
    refine TO.nil fun a w e s => ?_
    refine FRet.mk0 (P := Try.prog) (fn := Try.f97) e rfl ?_
    refine ⟨_, _, rfl, ⟨(h0_2), (hs9), (h0_6), rfl, rfl⟩, ?_⟩
    refine s.mono fun _ s => ?_
    replace s := Sat.front 0 rfl s
    replace s := Sat.front 3 rfl s
    replace s := Sat.front 3 rfl s
    replace s := Sat.front 3 rfl s
    exact s

set_option maxRecDepth 100000 in
theorem C128 {B : World} {L : List HP} {a0 : List Int} {a1 : Int} {h0 : Value} {r0 : Int} (e0 : Ent L (Rd 1 h0 (a0.map cI))) (hm : F128 a0 a1 = some r0) {w : World} (st : St B L w) : Calls Try.prog 128 #[h0, I a1] w (fun e w' => (e = .returned (I r0) ∧ St B (L) w')) := by
  refine calls_of (N := 19) (L := L) (args := [h0, I a1]) Try.func128 rfl rfl rfl ?_ st
  dsimp only [F128] at hm
  refine TC.k ?_
  refine TC.region ?_
  refine TO.s rfl rfl rfl (StepS.assign rfl) ?_
  refine TO.code ?_
  refine TC.k ?_
  refine TC.k ?_
  refine TC.region ?_
  refine TO.s rfl rfl rfl (StepS.move rfl) ?_
  refine TO.s rfl rfl rfl (StepS.lenm rfl e0 ksliceB_22_3_1_true rfl) ?_
  refine TO.s rfl rfl rfl (StepS.move rfl) ?_
  refine TO.code ?_
  obtain ⟨o3, hw4, hm⟩ := bind_some hm
  refine TC.loop hw4 (fun x1 => fun a w => Mid 19 B [(0, h0), (1, I a1), (7, I (a0.length : Int)), (8, I x1)] (L) a w) (fun _ => fun a w => Mid 19 B [] (L) a w) (fun r0 => FRet Try.prog Try.f128 (fun e w' => (e = .returned (I r0) ∧ St B (L) w'))) ?_ ?_ ?_ ?_
  · rintro x1 o3r hb5 a w ⟨he, hs⟩
    dsimp only [F128_L0] at hb5
    refine TC.use ?_ he hs
    refine TC.k ?_
    refine TC.region ?_
    refine TO.s rfl rfl rfl (StepS.cmp rfl rfl rfl) ?_
    refine TO.code ?_
    refine TC.k ?_
    refine TC.cond rfl (fun hc6 => ?_) (fun hc6 => ?_)
    · replace hb5 := cond_t hc6 hb5
      refine TC.skipk ?_
      refine TC.k ?_
      refine TC.block ?_
      refine TC.k ?_
      refine TC.region ?_
      refine TO.s rfl rfl rfl (StepS.move rfl) ?_
      refine TO.s rfl rfl rfl (StepS.assign rfl) ?_
      refine TO.code ?_
      refine TC.k ?_
      refine TC.region ?_
      refine TO.s rfl rfl rfl (StepS.move rfl) ?_
      refine TO.s rfl rfl rfl (StepS.move rfl) ?_
      refine TO.s rfl rfl rfl (StepS.move rfl) ?_
      obtain ⟨x7, hx8, hb5⟩ := bind_some hb5
      refine TO.s rfl rfl rfl (StepS.idx rfl rfl e0 ksliceB_22_3_1_true (idx_spec hx8).1 (idxm_lt hx8)) ?_
      refine TO.s rfl rfl rfl (StepS.ld0 rfl e0 kscalB_3_true rfl (idxm hx8) rfl) ?_
      refine TO.s rfl rfl rfl (StepS.cmp rfl rfl rfl) ?_
      refine TO.code ?_
      refine TC.cond rfl (fun hc9 => ?_) (fun hc9 => ?_)
      · replace hb5 := cond_t hc9 hb5
        refine TC.k ?_
        refine TC.region ?_
        refine TO.s rfl rfl rfl (StepS.move rfl) ?_
        refine TO.s rfl rfl rfl (StepS.assign rfl) ?_
        refine TO.code ?_
        cases hb5
        refine TC.ret fun a w e s => ?_
        refine FRet.mk1 (P := Try.prog) (fn := Try.f128) (t := 4) e rfl rfl ?_
        exact ⟨rfl, s.mono fun _ => Sat.dropN 0⟩
      · replace hb5 := cond_f hc9 hb5
        refine TC.skipk ?_
        refine TC.region ?_
        refine TO.s rfl rfl rfl (StepS.ari rfl rfl rfl) ?_
        refine TO.s rfl rfl rfl (StepS.move rfl) ?_
        cases hb5
        refine TO.nil fun a w e s => ?_
        exact ⟨e.sub (lk_of_allIn ⟨rfl, rfl, rfl, rfl, trivial⟩), s⟩
    · replace hb5 := cond_f hc6 hb5
      cases hb5
      refine TC.exit rfl fun a w e s => ?_
      exact ⟨e.sub (lk_of_allIn trivial), s⟩
  · exact fun a w e s => ⟨e.sub (lk_of_allIn ⟨rfl, rfl, rfl, rfl, trivial⟩), s⟩
  · rintro _ rfl a w ⟨he, hs⟩
    dsimp only [Ctl.on] at hm
    refine TC.use ?_ he hs
    refine TC.k ?_
    refine TC.region ?_
    refine TO.s rfl rfl rfl (StepS.assign rfl) ?_
    refine TO.code ?_
    cases hm
    refine TC.ret fun a w e s => ?_
    refine FRet.mk1 (P := Try.prog) (fn := Try.f128) (t := 4) e rfl rfl ?_
    exact ⟨rfl, s.mono fun _ => Sat.dropN 0⟩
  · rintro r rfl
    cases hm
    exact fun a w h => h

set_option maxRecDepth 100000 in
theorem C84 {B : World} {L : List HP} {a0 : List Int} {a1 : Int} {h0 : Value} {r0 : Bool} (e0 : Ent L (Rd 1 h0 (a0.map cI))) (hm : F84 a0 a1 = some r0) {w : World} (st : St B L w) : Calls Try.prog 84 #[h0, I a1] w (fun e w' => (e = .returned (.bool r0) ∧ St B (L) w')) := by
  refine calls_of (N := 9) (L := L) (args := [h0, I a1]) Try.func84 rfl rfl rfl ?_ st
  dsimp only [F84] at hm
  refine TC.k ?_
  refine TC.region ?_
  refine TO.s rfl rfl rfl (StepS.assign rfl) ?_
  refine TO.code ?_
  refine TC.k ?_
  refine TC.region ?_
  refine TO.s rfl rfl rfl (StepS.move rfl) ?_
  refine TO.s rfl rfl rfl (StepS.move rfl) ?_
  obtain ⟨r1, hc2, hm⟩ := bind_some hm
  refine TO.q rfl rfl rfl (StepQ.call kcallB_128_true rfl rfl (fun _ st => C128 e0 hc2 st)) ?_
  refine TO.s rfl rfl rfl (StepS.cmp rfl rfl rfl) ?_
  refine TO.s rfl rfl rfl (StepS.assign rfl) ?_
  refine TO.code ?_
  cases hm
  refine TC.ret fun a w e s => ?_
  refine FRet.mk1 (P := Try.prog) (fn := Try.f84) (t := 4) e rfl rfl ?_
  exact ⟨rfl, s.mono fun _ => Sat.dropN 0⟩

set_option maxRecDepth 100000 in
theorem C132 {B : World} {L : List HP} {a0 : List Int} {a1 : List Int} {h0 : Value} {h1 : Value} {r0 : Bool} (e0 : Ent L (Rd 1 h0 (a0.map cI))) (e1 : Ent L (Rd 1 h1 (a1.map cI))) (hm : F132 a0 a1 = some r0) {w : World} (st : St B L w) : Calls Try.prog 132 #[h0, h1] w (fun e w' => (e = .returned (.bool r0) ∧ St B (L) w')) := by
  refine calls_of (N := 21) (L := L) (args := [h0, h1]) Try.func132 rfl rfl rfl ?_ st
  dsimp only [F132] at hm
  refine TC.k ?_
  refine TC.region ?_
  refine TO.s rfl rfl rfl (StepS.assign rfl) ?_
  refine TO.code ?_
  refine TC.k ?_
  refine TC.k ?_
  refine TC.region ?_
  refine TO.s rfl rfl rfl (StepS.move rfl) ?_
  refine TO.s rfl rfl rfl (StepS.lenm rfl e0 ksliceB_22_3_1_true rfl) ?_
  refine TO.s rfl rfl rfl (StepS.move rfl) ?_
  refine TO.code ?_
  obtain ⟨o3, hw4, hm⟩ := bind_some hm
  refine TC.loop hw4 (fun x1 => fun a w => Mid 21 B [(1, h1), (7, h0), (8, I (a0.length : Int)), (9, I x1)] (L) a w) (fun _ => fun a w => Mid 21 B [] (L) a w) (fun r0 => FRet Try.prog Try.f132 (fun e w' => (e = .returned (.bool r0) ∧ St B (L) w'))) ?_ ?_ ?_ ?_
  · rintro x1 o3r hb5 a w ⟨he, hs⟩
    dsimp only [F132_L0] at hb5
    refine TC.use ?_ he hs
    refine TC.k ?_
    refine TC.region ?_
    refine TO.s rfl rfl rfl (StepS.cmp rfl rfl rfl) ?_
    refine TO.code ?_
    refine TC.k ?_
    refine TC.cond rfl (fun hc6 => ?_) (fun hc6 => ?_)
    · replace hb5 := cond_t hc6 hb5
      refine TC.skipk ?_
      refine TC.k ?_
      refine TC.block ?_
      refine TC.k ?_
      refine TC.region ?_
      refine TO.s rfl rfl rfl (StepS.move rfl) ?_
      obtain ⟨x7, hx8, hb5⟩ := bind_some hb5
      refine TO.s rfl rfl rfl (StepS.idx rfl rfl e0 ksliceB_22_3_1_true (idx_spec hx8).1 (idxm_lt hx8)) ?_
      refine TO.s rfl rfl rfl (StepS.ld0 rfl e0 kscalB_3_true rfl (idxm hx8) rfl) ?_
      refine TO.s rfl rfl rfl (StepS.assign rfl) ?_
      refine TO.s rfl rfl rfl (StepS.assign rfl) ?_
      refine TO.code ?_
      refine TC.k ?_
      refine TC.region ?_
      refine TO.s rfl rfl rfl (StepS.move rfl) ?_
      refine TO.s rfl rfl rfl (StepS.move rfl) ?_
      refine TO.s rfl rfl rfl (StepS.move rfl) ?_
      obtain ⟨x9, hx10, hb5⟩ := bind_some hb5
      refine TO.s rfl rfl rfl (StepS.idx rfl rfl e1 ksliceB_22_3_1_true (idx_spec hx10).1 (idxm_lt hx10)) ?_
      refine TO.s rfl rfl rfl (StepS.ld0 rfl e1 kscalB_3_true rfl (idxm hx10) rfl) ?_
      refine TO.s rfl rfl rfl (StepS.cmp rfl rfl rfl) ?_
      refine TO.code ?_
      refine TC.cond rfl (fun hc11 => ?_) (fun hc11 => ?_)
      · replace hb5 := cond_t hc11 hb5
        refine TC.k ?_
        refine TC.region ?_
        refine TO.s rfl rfl rfl (StepS.assign rfl) ?_
        refine TO.code ?_
        cases hb5
        refine TC.ret fun a w e s => ?_
        refine FRet.mk1 (P := Try.prog) (fn := Try.f132) (t := 4) e rfl rfl ?_
        exact ⟨rfl, s.mono fun _ => Sat.dropN 0⟩
      · replace hb5 := cond_f hc11 hb5
        refine TC.skipk ?_
        refine TC.region ?_
        refine TO.s rfl rfl rfl (StepS.ari rfl rfl rfl) ?_
        refine TO.s rfl rfl rfl (StepS.move rfl) ?_
        cases hb5
        refine TO.nil fun a w e s => ?_
        exact ⟨e.sub (lk_of_allIn ⟨rfl, rfl, rfl, rfl, trivial⟩), s⟩
    · replace hb5 := cond_f hc6 hb5
      cases hb5
      refine TC.exit rfl fun a w e s => ?_
      exact ⟨e.sub (lk_of_allIn trivial), s⟩
  · exact fun a w e s => ⟨e.sub (lk_of_allIn ⟨rfl, rfl, rfl, rfl, trivial⟩), s⟩
  · rintro _ rfl a w ⟨he, hs⟩
    dsimp only [Ctl.on] at hm
    refine TC.use ?_ he hs
    refine TC.k ?_
    refine TC.region ?_
    refine TO.s rfl rfl rfl (StepS.assign rfl) ?_
    refine TO.code ?_
    cases hm
    refine TC.ret fun a w e s => ?_
    refine FRet.mk1 (P := Try.prog) (fn := Try.f132) (t := 4) e rfl rfl ?_
    exact ⟨rfl, s.mono fun _ => Sat.dropN 0⟩
  · rintro r rfl
    cases hm
    exact fun a w h => h

set_option maxRecDepth 100000 in
theorem C98 {B : World} {L : List HP} {a0 : (List (Int × List Int)) × (List (List Int)) × (List (List Int)) × (List (Int → Option Bool))} {a1 : Int} {b0_ : Nat} {u0_0 : Value} {h0_1 : Value} {h0_2 : List (List Value)} {h0_3 : Value} {h0_4 : List Value} {h0_5 : Value} {h0_6 : List Value} {h0_7 : Value} {h0_8 : List (List Value)} {s0 : (List (Int × List Int)) × (List (List Int)) × (List (List Int)) × (List (Int → Option Bool))} (hm : F98 a0 a1 = some s0) {w : World} (st : St B (Bx b0_ 148 [u0_0, h0_1, h0_3, h0_5, h0_7] :: SN 211 2 nT211 h0_1 h0_2 (a0.1) :: SS 22 3 1 cI h0_3 h0_4 (a0.2.1) :: SS 22 3 1 cI h0_5 h0_6 (a0.2.2.1) :: SN 149 1 nT149 h0_7 h0_8 (a0.2.2.2) :: L) w) : Calls Try.prog 98 #[.pointer (some ⟨b0_, 0, none⟩), I a1] w (fun e w' => ∃ v M, e = .returned v ∧ (∃ (qhs1 : List (List Value)) (qhs2 : List Value) (qhs3 : List Value) (qhs4 : List (List Value)), v = .tuple #[] ∧ M = (Bx b0_ 148 [u0_0, h0_1, h0_3, h0_5, h0_7] :: SN 211 2 nT211 h0_1 qhs1 (s0.1) :: SS 22 3 1 cI h0_3 qhs2 (s0.2.1) :: SS 22 3 1 cI h0_5 qhs3 (s0.2.2.1) :: SN 149 1 nT149 h0_7 qhs4 (s0.2.2.2) :: L)) ∧ St B M w') := by
  refine calls_of (N := 57) (L := (Bx b0_ 148 [u0_0, h0_1, h0_3, h0_5, h0_7] :: SN 211 2 nT211 h0_1 h0_2 (a0.1) :: SS 22 3 1 cI h0_3 h0_4 (a0.2.1) :: SS 22 3 1 cI h0_5 h0_6 (a0.2.2.1) :: SN 149 1 nT149 h0_7 h0_8 (a0.2.2.2) :: L)) (args := [.pointer (some ⟨b0_, 0, none⟩), I a1]) Try.func98 rfl rfl rfl ?_ st
  dsimp only [F98] at hm
  refine TC.k ?_
  refine TC.region ?_
  refine TO.s rfl rfl rfl (StepS.assign rfl) ?_
  refine TO.code ?_
  obtain ⟨o29, hw30, hm⟩ := bind_some hm
  refine TC.loop hw30 (fun (y9, y11, y13, x15) => fun a w => ∃ hs10 : List (List Value), ∃ hs12 : List Value, ∃ hs14 : List Value, Mid 57 B [(0, .pointer (some ⟨b0_, 0, none⟩)), (1, I a1), (4, I x15)] (Bx b0_ 148 [u0_0, h0_1, h0_3, h0_5, h0_7] :: SN 211 2 nT211 h0_1 hs10 (y9) :: SS 22 3 1 cI h0_3 hs12 (y11) :: SS 22 3 1 cI h0_5 hs14 (y13) :: SN 149 1 nT149 h0_7 h0_8 (a0.2.2.2) :: L) a w) (fun (y23, y25, y27) => fun a w => ∃ hs24 : List (List Value), ∃ hs26 : List Value, ∃ hs28 : List Value, Mid 57 B [] (Bx b0_ 148 [u0_0, h0_1, h0_3, h0_5, h0_7] :: SN 211 2 nT211 h0_1 hs24 (y23) :: SS 22 3 1 cI h0_3 hs26 (y25) :: SS 22 3 1 cI h0_5 hs28 (y27) :: SN 149 1 nT149 h0_7 h0_8 (a0.2.2.2) :: L) a w) (fun (_ : Unit) _ _ => False) ?_ ?_ ?_ ?_
  · rintro ⟨y9, y11, y13, x15⟩ o29r hb31 a w ⟨hs10, hs12, hs14, he, hs⟩
    dsimp only [F98_L0] at hb31
    refine TC.use ?_ he hs
    refine TC.k ?_
    refine TC.k ?_
    refine TC.region ?_
    refine TO.s rfl rfl rfl (StepS.move rfl) ?_
    refine TO.s rfl rfl rfl (StepS.move rfl) ?_
    refine TO.s rfl rfl rfl (StepS.nilc rfl) ?_
    refine TO.s rfl rfl rfl (StepS.fld rfl kfieldB_148_1_1_true) ?_
    refine TO.s rfl rfl rfl (StepS.ldB rfl (Ent.at 0 rfl) kscalB_145_true rfl) ?_
    refine TO.s rfl rfl rfl (StepS.lenN rfl (Ent.at 1 rfl) ksliceB_145_211_2_true rfl) ?_
    refine TO.s rfl rfl rfl (StepS.cmp rfl rfl rfl) ?_
    refine TO.code ?_
    refine TC.cond rfl (fun hc32 => ?_) (fun hc32 => ?_)
    · replace hb31 := cond_t hc32 hb31
      refine TC.skipk ?_
      refine TC.k ?_
      obtain ⟨⟨y33, y35, y37, x39⟩, hj40, hb31⟩ := bind_some hb31
      first | refine TC.cutM (fun a w => ∃ hs34 : List (List Value), ∃ hs36 : List Value, ∃ hs38 : List Value, Mid 57 B [(0, .pointer (some ⟨b0_, 0, none⟩)), (1, I a1), (4, I x39)] (Bx b0_ 148 [u0_0, h0_1, h0_3, h0_5, h0_7] :: SN 211 2 nT211 h0_1 hs34 (y33) :: SS 22 3 1 cI h0_3 hs36 (y35) :: SS 22 3 1 cI h0_5 hs38 (y37) :: SN 149 1 nT149 h0_7 h0_8 (a0.2.2.2) :: L) a w) ?_ ?_ | refine TC.cutX (fun a w => ∃ hs34 : List (List Value), ∃ hs36 : List Value, ∃ hs38 : List Value, Mid 57 B [(0, .pointer (some ⟨b0_, 0, none⟩)), (1, I a1), (4, I x39)] (Bx b0_ 148 [u0_0, h0_1, h0_3, h0_5, h0_7] :: SN 211 2 nT211 h0_1 hs34 (y33) :: SS 22 3 1 cI h0_3 hs36 (y35) :: SS 22 3 1 cI h0_5 hs38 (y37) :: SN 149 1 nT149 h0_7 h0_8 (a0.2.2.2) :: L) a w) ?_ ?_
      · refine TC.block ?_
        refine TC.k ?_
        refine TC.region_quiet kfollows_mixedOrders_true (by kernel_rfl) ?_
        refine TQ.s rfl rfl rfl (StepS.move rfl).q ?_
        refine TQ.s rfl rfl rfl (StepS.nilc rfl).q ?_
        refine TQ.s rfl rfl rfl (StepS.fld rfl kfieldB_148_4_4_true).q ?_
        refine TQ.s rfl rfl rfl (StepS.ldB rfl (Ent.at 0 rfl) kscalB_146_true rfl).q ?_
        refine TQ.s rfl rfl rfl (StepS.move rfl).q ?_
        obtain ⟨x41, hx42, hj40⟩ := bind_some hj40
        refine TQ.s rfl rfl rfl (StepS.idxN rfl rfl (Ent.at 4 rfl) ksliceB_146_149_1_true hx42).q ?_
        refine TQ.s rfl rfl rfl (StepS.ldN (j := 0) rfl (Ent.at 4 rfl) kscalB_149_true hx42 rfl rfl).q ?_
        refine TQ.s rfl rfl rfl (StepS.move rfl).q ?_
        refine TQ.s rfl rfl rfl (StepS.lookF (k := x15) kmapGB_149_3_4_true (KeyOk.int kunderlying_3_some_int_i64) kinfo_4_bind_zero_some_bool_false rfl (SN.piece (Ent.at 4 rfl) hx42 0 rfl) rfl (getD_vf (vf := (fun x : Bool => .bool x)) (x41 x15) false)).q ?_
        refine TQ.s rfl rfl rfl (StepS.move rfl).q ?_
        obtain ⟨b45, hj46, hj40⟩ := bind_some hj40
        refine TQ.mid1 11 34 (.bool b45) ?_ ?_
        · refine bcase (((x41 x15).getD false)) (fun hb44 => ?_) (fun hb44 => ?_)
          · replace hj46 := cond_t hb44 hj46
            refine TQ.sw rfl rfl rfl hb44 rfl rfl (StepS.move rfl).q ?_
            refine TQ.sw rfl rfl rfl hb44 rfl rfl (StepS.nilc rfl).q ?_
            refine TQ.sw rfl rfl rfl hb44 rfl rfl (StepS.fld rfl kfieldB_148_2_2_true).q ?_
            refine TQ.sw rfl rfl rfl hb44 rfl rfl (StepS.ldB rfl (Ent.at 0 rfl) kscalB_50_true rfl).q ?_
            refine TQ.sw rfl rfl rfl hb44 rfl rfl (StepS.move rfl).q ?_
            obtain ⟨x47, hx48, hj46⟩ := bind_some hj46
            refine TQ.sw rfl rfl rfl hb44 rfl rfl (StepS.idxRR rfl rfl (SS.rr (Ent.at 2 rfl)) ksliceB_50_22_1_true hx48).q ?_
            refine TQ.sw rfl rfl rfl hb44 rfl rfl (StepS.ldRR rfl (SS.rr (Ent.at 2 rfl)) kscalB_22_true hx48).q ?_
            refine TQ.sw rfl rfl rfl hb44 rfl rfl (StepS.move rfl).q ?_
            obtain ⟨r50, hc51, hj46⟩ := bind_some hj46
            refine TQ.sw rfl rfl rfl hb44 rfl rfl (StepQ.call kcallB_84_true rfl rfl (fun _ st => C84 (RR.row (SS.rr (Ent.at 2 rfl)) hx48) hc51 st)) ?_
            refine TQ.sw rfl rfl rfl hb44 rfl rfl (StepS.not rfl).q ?_
            cases hj46
            refine TQ.s rfl rfl rfl (StepS.pickT rfl hb44 rfl).q ?_
            exact TQ.up1 11 0 rfl rfl rfl rfl
          · replace hj46 := cond_f hb44 hj46
            cases hj46
            refine TQ.skip rfl rfl rfl (skipF hb44) rfl rfl ?_
            refine TQ.skip rfl rfl rfl (skipF hb44) rfl rfl ?_
            refine TQ.skip rfl rfl rfl (skipF hb44) rfl rfl ?_
            refine TQ.skip rfl rfl rfl (skipF hb44) rfl rfl ?_
            refine TQ.skip rfl rfl rfl (skipF hb44) rfl rfl ?_
            refine TQ.skip rfl rfl rfl (skipF hb44) rfl rfl ?_
            refine TQ.skip rfl rfl rfl (skipF hb44) rfl rfl ?_
            refine TQ.skip rfl rfl rfl (skipF hb44) rfl rfl ?_
            refine TQ.skip rfl rfl rfl (skipF hb44) rfl rfl ?_
            refine TQ.skip rfl rfl rfl (skipF hb44) rfl rfl ?_
            refine TQ.s rfl rfl rfl (StepS.pickF rfl hb44 rfl).q ?_
            exact TQ.up1 11 0 rfl rfl rfl rfl
        refine TQ.s rfl rfl rfl (StepS.move rfl).q ?_
        obtain ⟨b53, hj54, hj40⟩ := bind_some hj40
        refine TQ.mid1 17 52 (.bool b53) ?_ ?_
        · refine bcase (b45) (fun hb52 => ?_) (fun hb52 => ?_)
          · replace hj54 := cond_t hb52 hj54
            refine TQ.sw rfl rfl rfl hb52 rfl rfl (StepS.move rfl).q ?_
            refine TQ.sw rfl rfl rfl hb52 rfl rfl (StepS.nilc rfl).q ?_
            refine TQ.sw rfl rfl rfl hb52 rfl rfl (StepS.fld rfl kfieldB_148_1_1_true).q ?_
            refine TQ.sw rfl rfl rfl hb52 rfl rfl (StepS.ldB rfl (Ent.at 0 rfl) kscalB_145_true rfl).q ?_
            refine TQ.sw rfl rfl rfl hb52 rfl rfl (StepS.move rfl).q ?_
            obtain ⟨x55, hx56, hj54⟩ := bind_some hj54
            refine TQ.sw rfl rfl rfl hb52 rfl rfl (StepS.idxN rfl rfl (Ent.at 1 rfl) ksliceB_145_211_2_true hx56).q ?_
            refine TQ.sw rfl rfl rfl hb52 rfl rfl (StepS.ptrf rfl kfieldB_211_1_1_true).q ?_
            refine TQ.sw rfl rfl rfl hb52 rfl rfl (StepS.ldN (j := 1) rfl (Ent.at 1 rfl) kscalB_22_true hx56 rfl rfl).q ?_
            refine TQ.sw rfl rfl rfl hb52 rfl rfl (StepS.move rfl).q ?_
            refine TQ.sw rfl rfl rfl hb52 rfl rfl (StepS.nilc rfl).q ?_
            refine TQ.sw rfl rfl rfl hb52 rfl rfl (StepS.fld rfl kfieldB_148_3_3_true).q ?_
            refine TQ.sw rfl rfl rfl hb52 rfl rfl (StepS.ldB rfl (Ent.at 0 rfl) kscalB_50_true rfl).q ?_
            refine TQ.sw rfl rfl rfl hb52 rfl rfl (StepS.move rfl).q ?_
            obtain ⟨x57, hx58, hj54⟩ := bind_some hj54
            refine TQ.sw rfl rfl rfl hb52 rfl rfl (StepS.idxRR rfl rfl (SS.rr (Ent.at 3 rfl)) ksliceB_50_22_1_true hx58).q ?_
            refine TQ.sw rfl rfl rfl hb52 rfl rfl (StepS.ldRR rfl (SS.rr (Ent.at 3 rfl)) kscalB_22_true hx58).q ?_
            obtain ⟨r60, hc61, hj54⟩ := bind_some hj54
            refine TQ.sw rfl rfl rfl hb52 rfl rfl (StepQ.call kcallB_132_true rfl rfl (fun _ st => C132 (OwnS.rd (SN.piece (Ent.at 1 rfl) hx56 0 rfl)) (RR.row (SS.rr (Ent.at 3 rfl)) hx58) hc61 st)) ?_
            cases hj54
            refine TQ.s rfl rfl rfl (StepS.pickT rfl hb52 rfl).q ?_
            exact TQ.up1 17 0 rfl rfl rfl rfl
          · replace hj54 := cond_f hb52 hj54
            cases hj54
            refine TQ.skip rfl rfl rfl (skipF hb52) rfl rfl ?_
            refine TQ.skip rfl rfl rfl (skipF hb52) rfl rfl ?_
            refine TQ.skip rfl rfl rfl (skipF hb52) rfl rfl ?_
            refine TQ.skip rfl rfl rfl (skipF hb52) rfl rfl ?_
            refine TQ.skip rfl rfl rfl (skipF hb52) rfl rfl ?_
            refine TQ.skip rfl rfl rfl (skipF hb52) rfl rfl ?_
            refine TQ.skip rfl rfl rfl (skipF hb52) rfl rfl ?_
            refine TQ.skip rfl rfl rfl (skipF hb52) rfl rfl ?_
            refine TQ.skip rfl rfl rfl (skipF hb52) rfl rfl ?_
            refine TQ.skip rfl rfl rfl (skipF hb52) rfl rfl ?_
            refine TQ.skip rfl rfl rfl (skipF hb52) rfl rfl ?_
            refine TQ.skip rfl rfl rfl (skipF hb52) rfl rfl ?_
            refine TQ.skip rfl rfl rfl (skipF hb52) rfl rfl ?_
            refine TQ.skip rfl rfl rfl (skipF hb52) rfl rfl ?_
            refine TQ.skip rfl rfl rfl (skipF hb52) rfl rfl ?_
            refine TQ.skip rfl rfl rfl (skipF hb52) rfl rfl ?_
            refine TQ.s rfl rfl rfl (StepS.pickF rfl hb52 rfl).q ?_
            exact TQ.up1 17 0 rfl rfl rfl rfl
        refine TQ.code ?_
        refine TC.cond rfl (fun hc62 => ?_) (fun hc62 => ?_)
        · replace hj40 := cond_t hc62 hj40
          refine TC.k ?_
          refine TC.region ?_
          refine TO.s rfl rfl rfl (StepS.move rfl) ?_
          refine TO.s rfl rfl rfl (StepS.move rfl) ?_
          refine TO.s rfl rfl rfl (StepS.move rfl) ?_
          refine TO.ghost (fun _ s => Sat.front 3 rfl s) ?_
          refine TO.ghost (fun _ s => Sat.front 3 rfl s) ?_
          refine TO.ghost (fun _ s => Sat.front 3 rfl s) ?_
          refine TO.ghost (fun _ s => Sat.front 3 rfl s) ?_
          obtain ⟨r63, hc64, hj40⟩ := bind_some hj40
          refine TO.callO kcallB_97_true rfl rfl rfl (fun _ st => C97 (a0 := (y9, y11, y13))  hc64 st) ?_
          rintro _ _ ⟨hs65, hs67, hs69, rfl, rfl⟩
          refine TO.code ?_
          refine TC.region ?_
          refine TO.s rfl rfl rfl (StepS.assign rfl) ?_
          cases hj40
          refine TO.nil fun a w e s => ?_
          exact ⟨hs65, hs67, hs69, e.sub (lk_of_allIn ⟨rfl, rfl, rfl, trivial⟩), s⟩
        · replace hj40 := cond_f hc62 hj40
          cases hj40
          refine TC.skip fun a w e s => ?_
          exact ⟨hs10, hs12, hs14, e.sub (lk_of_allIn ⟨rfl, rfl, rfl, trivial⟩), s⟩
      · intro a w ⟨hs34, hs36, hs38, he, hs⟩
        refine TC.use ?_ he hs
        refine TC.region ?_
        refine TO.s rfl rfl rfl (StepS.move rfl) ?_
        refine TO.s rfl rfl rfl (StepS.ari rfl rfl rfl) ?_
        refine TO.s rfl rfl rfl (StepS.assign rfl) ?_
        cases hb31
        refine TO.nil fun a w e s => ?_
        exact ⟨hs34, hs36, hs38, e.sub (lk_of_allIn ⟨rfl, rfl, rfl, trivial⟩), s⟩
    · replace hb31 := cond_f hc32 hb31
      cases hb31
      refine TC.exit rfl fun a w e s => ?_
      exact ⟨hs10, hs12, hs14, e.sub (lk_of_allIn trivial), s⟩
  · exact fun a w e s => ⟨h0_2, h0_4, h0_6, e.sub (lk_of_allIn ⟨rfl, rfl, rfl, trivial⟩), s⟩
  · rintro ⟨y23, y25, y27⟩ rfl a w ⟨hs24, hs26, hs28, he, hs⟩
    dsimp only [Ctl.on] at hm
    cases hm
    have e := he; have s := hs
    refine FRet.mk0 (P := Try.prog) (fn := Try.f98) e rfl ?_
    refine ⟨_, _, rfl, ⟨(hs24), (hs26), (hs28), (h0_8), rfl, rfl⟩, ?_⟩
    refine s.mono fun _ s => ?_
    exact Sat.by [4, 4, 4, 4, 4] 5 0 (by kernel_rfl) s
  · rintro r rfl
    exact fun a w h => h.elim

set_option maxRecDepth 100000 in
theorem C65 {B : World} {L : List HP} {a0 : Int × (List (Int × List Int)) × (List (List Int)) × (List (List Int)) × (List (Int → Option Bool))} {a1 : Int × Int × Int × Int} {b0_ : Nat} {h0_1 : Value} {h0_2 : List (List Value)} {h0_3 : Value} {h0_4 : List Value} {h0_5 : Value} {h0_6 : List Value} {h0_7 : Value} {h0_8 : List (List Value)} {r0 : Int} {s0 : Int × (List (Int × List Int)) × (List (List Int)) × (List (List Int)) × (List (Int → Option Bool))} (hm : F65 a0 a1 = some (r0, s0)) {w : World} (st : St B (Bx b0_ 148 [I a0.1, h0_1, h0_3, h0_5, h0_7] :: SN 211 2 nT211 h0_1 h0_2 (a0.2.1) :: SS 22 3 1 cI h0_3 h0_4 (a0.2.2.1) :: SS 22 3 1 cI h0_5 h0_6 (a0.2.2.2.1) :: SN 149 1 nT149 h0_7 h0_8 (a0.2.2.2.2) :: L) w) : Calls Try.prog 65 #[.pointer (some ⟨b0_, 0, none⟩), .agg (cTiiii a1).toArray] w (fun e w' => ∃ v M, e = .returned v ∧ (∃ (qv1 : Value) (qhs2 : List (List Value)) (qhs3 : List Value) (qhs4 : List Value) (qhs5 : List (List Value)), v = I r0 ∧ M = (Bx b0_ 148 [I s0.1, qv1, h0_3, h0_5, h0_7] :: SN 211 2 nT211 qv1 qhs2 (s0.2.1) :: SS 22 3 1 cI h0_3 qhs3 (s0.2.2.1) :: SS 22 3 1 cI h0_5 qhs4 (s0.2.2.2.1) :: SN 149 1 nT149 h0_7 qhs5 (s0.2.2.2.2) :: L)) ∧ St B M w') := by
  refine calls_of (N := 107) (L := (Bx b0_ 148 [I a0.1, h0_1, h0_3, h0_5, h0_7] :: SN 211 2 nT211 h0_1 h0_2 (a0.2.1) :: SS 22 3 1 cI h0_3 h0_4 (a0.2.2.1) :: SS 22 3 1 cI h0_5 h0_6 (a0.2.2.2.1) :: SN 149 1 nT149 h0_7 h0_8 (a0.2.2.2.2) :: L)) (args := [.pointer (some ⟨b0_, 0, none⟩), .agg (cTiiii a1).toArray]) Try.func65 rfl rfl rfl ?_ st
  dsimp only [F65] at hm
  refine TC.k ?_
  refine TC.region ?_
  refine TO.box (cs := [.pointer (some ⟨b0_, 0, none⟩)]) rfl rfl rfl fun b9 => ?_
  refine TO.box (cs := [I a1.1, I a1.2.1, I a1.2.2.1, I a1.2.2.2]) rfl rfl rfl fun b10 => ?_
  refine TO.s rfl rfl rfl (StepS.assign rfl) ?_
  refine TO.code ?_
  refine TC.k ?_
  refine TC.region ?_
  refine TO.s rfl rfl rfl (StepS.mkfn rfl) ?_
  refine TO.s rfl rfl rfl (StepS.assign rfl) ?_
  refine TO.code ?_
  refine TC.k ?_
  refine TC.k ?_
  refine TC.region ?_
  refine TO.s rfl rfl rfl (StepS.fld rfl kfieldB_106_0_0_true) ?_
  refine TO.s rfl rfl rfl (StepS.ldB rfl (Ent.at 0 rfl) kscalB_3_true rfl) ?_
  refine TO.code ?_
  refine TC.block ?_
  refine TC.k ?_
  refine TC.region ?_
  refine TO.s rfl rfl rfl (StepS.cmp rfl rfl rfl) ?_
  refine TO.s rfl rfl rfl (StepS.assign rfl) ?_
  refine TO.code ?_
  refine TC.cond rfl (fun hc11 => ?_) (fun hc11 => ?_)
  · replace hm := cond_t hc11 hm
    refine TC.k ?_
    refine TC.k ?_
    refine TC.region ?_
    refine TO.s rfl rfl rfl (StepS.move rfl) ?_
    refine TO.s rfl rfl rfl (StepS.fld rfl kfieldB_106_1_1_true) ?_
    refine TO.s rfl rfl rfl (StepS.ldB rfl (Ent.at 0 rfl) kscalB_3_true rfl) ?_
    obtain ⟨r12, hc13, hm⟩ := bind_some hm
    refine TO.q rfl rfl rfl (StepQ.callC kcallB_96_true rfl rfl rfl (fun _ st => C96 (Ent.at 1 rfl) (Ent.at 2 rfl) hc13 st)) ?_
    refine TO.code ?_
    refine TC.cond rfl (fun hc14 => ?_) (fun hc14 => ?_)
    · replace hm := cond_t hc14 hm
      refine TC.k ?_
      refine TC.region ?_
      refine TO.s rfl rfl rfl (StepS.assign rfl) ?_
      refine TO.code ?_
      cases hm
      refine TC.ret fun a w e s => ?_
      refine FRet.mk1 (P := Try.prog) (fn := Try.f65) (t := 4) e rfl rfl ?_
      refine ⟨_, _, rfl, ⟨(h0_1), (h0_2), (h0_4), (h0_6), (h0_8), rfl, rfl⟩, ?_⟩
      refine s.mono fun _ s => ?_
      exact Sat.by [6, 6, 6, 6, 6] 5 2 (by kernel_rfl) s
    · replace hm := cond_f hc14 hm
      refine TC.skipk ?_
      refine TC.k ?_
      refine TC.region_any (Bx b10 106 [I a1.1, I a1.2.1, I a1.2.2.1, I a1.2.2.2] :: Bx b9 144 [.pointer (some ⟨b0_, 0, none⟩)] :: Bx b0_ 148 [I a0.1, h0_1, h0_3, h0_5, h0_7] :: SS 22 3 1 cI h0_3 h0_4 (a0.2.2.1) :: SS 22 3 1 cI h0_5 h0_6 (a0.2.2.2.1) :: SN 149 1 nT149 h0_7 h0_8 (a0.2.2.2.2) :: L) 21 22 kfollows_mixedOrders_true rfl ?_
      refine TA.take 0 rfl rfl rfl rfl (StepS.ldB rfl (Ent.at 1 rfl) kscalB_144_true rfl) (by kernel_rfl) (by kernel_rfl) (by kernel_rfl) (by kernel_rfl) (by kernel_rfl) (fun _ s => Sat.by [6, 6, 6, 5, 5, 5] 6 1 (by kernel_rfl) s) ?_
      refine TA.take 1 rfl rfl rfl rfl (StepS.ldB rfl (Ent.at 1 rfl) kscalB_144_true rfl) (by kernel_rfl) (by kernel_rfl) (by kernel_rfl) (by kernel_rfl) (by kernel_rfl) (fun _ s => Sat.by [6, 6, 6, 5, 5, 5] 6 1 (by kernel_rfl) s) ?_
      refine TA.takeW 2 rfl rfl rfl rfl (StepS.nilc rfl) (by kernel_rfl) (by kernel_rfl) (by kernel_rfl) rfl (.inr (fun _ s => Sat.by [6, 6, 6, 5, 5, 5] 6 1 (by kernel_rfl) s)) ?_
      refine TA.takeW 3 rfl rfl rfl rfl (StepS.fld rfl kfieldB_148_1_1_true) (by kernel_rfl) (by kernel_rfl) (by kernel_rfl) rfl (.inr (fun _ s => Sat.by [6, 6, 6, 5, 5, 5] 6 1 (by kernel_rfl) s)) ?_
      refine TA.take 4 rfl rfl rfl rfl (StepS.ldB rfl (Ent.at 2 rfl) kscalB_145_true rfl) (by kernel_rfl) (by kernel_rfl) (by kernel_rfl) (by kernel_rfl) (by kernel_rfl) (fun _ s => Sat.by [6, 6, 6, 5, 5, 5] 6 1 (by kernel_rfl) s) ?_
      refine TA.takeW 5 rfl rfl rfl rfl (StepS.fld rfl kfieldB_106_1_1_true) (by kernel_rfl) (by kernel_rfl) (by kernel_rfl) rfl (.inr (fun _ s => Sat.by [6, 6, 6, 5, 5, 5] 6 1 (by kernel_rfl) s)) ?_
      refine TA.take 6 rfl rfl rfl rfl (StepS.ldB rfl (Ent.at 0 rfl) kscalB_3_true rfl) (by kernel_rfl) (by kernel_rfl) (by kernel_rfl) (by kernel_rfl) (by kernel_rfl) (fun _ s => Sat.by [6, 6, 6, 5, 5, 5] 6 1 (by kernel_rfl) s) ?_
      refine TA.take 7 rfl rfl rfl rfl (StepS.ldB rfl (Ent.at 1 rfl) kscalB_144_true rfl) (by kernel_rfl) (by kernel_rfl) (by kernel_rfl) (by kernel_rfl) (by kernel_rfl) (fun _ s => Sat.by [6, 6, 6, 5, 5, 5] 6 1 (by kernel_rfl) s) ?_
      refine TA.takeW 8 rfl rfl rfl rfl (StepS.nilc rfl) (by kernel_rfl) (by kernel_rfl) (by kernel_rfl) rfl (.inr (fun _ s => Sat.by [6, 6, 6, 5, 5, 5] 6 1 (by kernel_rfl) s)) ?_
      refine TA.takeW 9 rfl rfl rfl rfl (StepS.fld rfl kfieldB_148_3_3_true) (by kernel_rfl) (by kernel_rfl) (by kernel_rfl) rfl (.inr (fun _ s => Sat.by [6, 6, 6, 5, 5, 5] 6 1 (by kernel_rfl) s)) ?_
      refine TA.take 10 rfl rfl rfl rfl (StepS.ldB rfl (Ent.at 2 rfl) kscalB_50_true rfl) (by kernel_rfl) (by kernel_rfl) (by kernel_rfl) (by kernel_rfl) (by kernel_rfl) (fun _ s => Sat.by [6, 6, 6, 5, 5, 5] 6 1 (by kernel_rfl) s) ?_
      refine TA.takeW 11 rfl rfl rfl rfl (StepS.fld rfl kfieldB_106_1_1_true) (by kernel_rfl) (by kernel_rfl) (by kernel_rfl) rfl (.inr (fun _ s => Sat.by [6, 6, 6, 5, 5, 5] 6 1 (by kernel_rfl) s)) ?_
      refine TA.take 12 rfl rfl rfl rfl (StepS.ldB rfl (Ent.at 0 rfl) kscalB_3_true rfl) (by kernel_rfl) (by kernel_rfl) (by kernel_rfl) (by kernel_rfl) (by kernel_rfl) (fun _ s => Sat.by [6, 6, 6, 5, 5, 5] 6 1 (by kernel_rfl) s) ?_
      obtain ⟨xq15_13_1, hxq15_13_2, hm⟩ := bind_some hm
      refine TA.take 13 rfl rfl rfl rfl (StepS.idxRR rfl rfl (SS.rr (Ent.at 4 rfl)) ksliceB_50_22_1_true hxq15_13_2) (by kernel_rfl) (by kernel_rfl) (by kernel_rfl) (by kernel_rfl) (by kernel_rfl) (fun _ s => Sat.by [6, 6, 6, 5, 5, 5] 6 1 (by kernel_rfl) s) ?_
      refine TA.take 14 rfl rfl rfl rfl (StepS.ldRR rfl (SS.rr (Ent.at 4 rfl)) kscalB_22_true hxq15_13_2) (by kernel_rfl) (by kernel_rfl) (by kernel_rfl) (by kernel_rfl) (by kernel_rfl) (fun _ s => Sat.by [6, 6, 6, 5, 5, 5] 6 1 (by kernel_rfl) s) ?_
      refine TA.all1 (i := 15) (by kernel_rfl) ?_
      refine TB.of rfl ?_
      obtain ⟨rq15_15_1, hcq15_15_2, hm⟩ := bind_some hm
      refine TO.callO kcallB_82_true rfl rfl rfl (fun _ st => C82 (RR.row (SS.rr (Ent.at 5 rfl)) hxq15_13_2) hcq15_15_2 st) ?_
      rintro vq15_15_3 _ ⟨_, rfl, rfl⟩
      refine TA.back (.inr (fun _ s => Sat.by [7, 7, 7, 6, 6, 6] 6 2 (by kernel_rfl) s)) ?_
      refine TA.asL (L' := (OwnS 3 1 vq15_15_3 (rq15_15_1.map cI) :: Bx b10 106 [I a1.1, I a1.2.1, I a1.2.2.1, I a1.2.2.2] :: Bx b9 144 [.pointer (some ⟨b0_, 0, none⟩)] :: Bx b0_ 148 [I a0.1, h0_1, h0_3, h0_5, h0_7] :: SN 211 2 nT211 h0_1 h0_2 (a0.2.1) :: SS 22 3 1 cI h0_3 h0_4 (a0.2.2.1) :: SS 22 3 1 cI h0_5 h0_6 (a0.2.2.2.1) :: SN 149 1 nT149 h0_7 h0_8 (a0.2.2.2.2) :: L)) (listed' := #[true, true, true, true, true, true, true, true, true, true, true, true, true, true, true, true, false, false, false, false, false, false]) (by kernel_rfl) (by kernel_rfl) ?_
      refine TA.all1 (i := 16) (by kernel_rfl) ?_
      refine TB.of rfl ?_
      refine TO.pure (fun _ s => Rd.one (OwnS.rd (Ent.at 0 rfl)) s) fun ocq15_16_1 => ?_
      refine TO.s rfl rfl rfl (StepS.buildS (us := [(0, I a1.2.1), (1, .agg #[vq15_15_3])]) (cs := [I a1.2.1, vq15_15_3]) rfl (by simp only [List.map_cons, List.map_nil, ocq15_16_1.2] <;> rfl) (by kernel_rfl)) ?_
      refine TA.back (.inr (fun _ s => Sat.by [7, 7, 7, 6, 6, 6] 6 2 (by kernel_rfl) s)) ?_
      refine TA.asL (L' := (OwnS 3 1 vq15_15_3 (rq15_15_1.map cI) :: Bx b10 106 [I a1.1, I a1.2.1, I a1.2.2.1, I a1.2.2.2] :: Bx b9 144 [.pointer (some ⟨b0_, 0, none⟩)] :: Bx b0_ 148 [I a0.1, h0_1, h0_3, h0_5, h0_7] :: SN 211 2 nT211 h0_1 h0_2 (a0.2.1) :: SS 22 3 1 cI h0_3 h0_4 (a0.2.2.1) :: SS 22 3 1 cI h0_5 h0_6 (a0.2.2.2.1) :: SN 149 1 nT149 h0_7 h0_8 (a0.2.2.2.2) :: L)) (listed' := #[true, true, true, true, true, true, true, true, true, true, true, true, true, true, true, true, true, false, false, false, false, false]) (by kernel_rfl) (by kernel_rfl) ?_
      refine TA.all1 (i := 17) (by kernel_rfl) ?_
      refine TB.of rfl ?_
      refine TO.litS (f := fun (_ : Unit) => [I a1.2.1, vq15_15_3]) [()] kelemB_145_211_2_32_true kinfo_211_bind_zero_some_agg_I_0_slice_none_0_0 rfl rfl (fun _ => rfl) rfl rfl (by kernel_rfl) rfl fun vq15_17_1 => ?_
      refine TA.back (.inr (fun _ s => Sat.by [8, 8, 8, 7, 7, 7] 6 3 (by kernel_rfl) s)) ?_
      refine TA.asL (L' := (OwnS 211 2 vq15_17_1 ([()].map (fun (_ : Unit) => [I a1.2.1, vq15_15_3])) :: OwnS 3 1 vq15_15_3 (rq15_15_1.map cI) :: Bx b10 106 [I a1.1, I a1.2.1, I a1.2.2.1, I a1.2.2.2] :: Bx b9 144 [.pointer (some ⟨b0_, 0, none⟩)] :: Bx b0_ 148 [I a0.1, h0_1, h0_3, h0_5, h0_7] :: SN 211 2 nT211 h0_1 h0_2 (a0.2.1) :: SS 22 3 1 cI h0_3 h0_4 (a0.2.2.1) :: SS 22 3 1 cI h0_5 h0_6 (a0.2.2.2.1) :: SN 149 1 nT149 h0_7 h0_8 (a0.2.2.2.2) :: L)) (listed' := #[true, true, true, true, true, true, true, true, true, true, true, true, true, true, true, true, true, true, false, false, false, false]) (by kernel_rfl) (by kernel_rfl) ?_
      refine TA.all1 (i := 18) (by kernel_rfl) ?_
      refine TB.of rfl ?_
      refine TO.pure (fun _ s => Rd.one (OwnS.rd (Ent.at 1 rfl)) s) fun ocq15_18_1 => ?_
      refine TO.ghost (fun _ s => Sat.front 5 rfl s) ?_
      refine TO.ghost (fun _ s => Sat.front 2 rfl s) ?_
      obtain ⟨yq15_18_2, hkq15_18_3, hm⟩ := bind_some hm
      refine TO.appN (T := nT211) (z := (a1.2.1, rq15_15_1)) [vq15_15_3] rfl kelemB_145_211_2_32_true (by decide) rfl rfl (OwnS.rd (Ent.at 0 rfl)) hkq15_18_3 (by intro u hu; have hu : u ∈ [I a1.2.1, vq15_15_3] := hu; simp only [List.mem_cons, List.not_mem_nil, or_false] at hu; rcases hu with rfl | rfl <;> first | rfl | exact ocq15_18_1.1) rfl rfl fun vq15_18_4 hsq15_18_5 => ?_
      refine TA.back (.inr (fun _ s => Sat.by [7, 7, 7, 7, 7, 7] 6 2 (by kernel_rfl) s)) ?_
      refine TA.asL (L' := (SN 211 2 nT211 vq15_18_4 hsq15_18_5 (yq15_18_2) :: OwnS 211 2 vq15_17_1 ([()].map (fun (_ : Unit) => [I a1.2.1, vq15_15_3])) :: Bx b10 106 [I a1.1, I a1.2.1, I a1.2.2.1, I a1.2.2.2] :: Bx b9 144 [.pointer (some ⟨b0_, 0, none⟩)] :: Bx b0_ 148 [I a0.1, h0_1, h0_3, h0_5, h0_7] :: SS 22 3 1 cI h0_3 h0_4 (a0.2.2.1) :: SS 22 3 1 cI h0_5 h0_6 (a0.2.2.2.1) :: SN 149 1 nT149 h0_7 h0_8 (a0.2.2.2.2) :: L)) (listed' := #[true, true, true, true, true, true, true, true, true, true, true, true, true, true, true, true, true, true, true, false, false, false]) (by kernel_rfl) (by kernel_rfl) ?_
      refine TA.takeW 19 rfl rfl rfl rfl (StepS.nilc rfl) (by kernel_rfl) (by kernel_rfl) (by kernel_rfl) rfl (.inr (fun _ s => Sat.by [7, 7, 7, 7, 7, 7] 6 2 (by kernel_rfl) s)) ?_
      refine TA.takeW 20 rfl rfl rfl rfl (StepS.fld rfl kfieldB_148_1_1_true) (by kernel_rfl) (by kernel_rfl) (by kernel_rfl) rfl (.inr (fun _ s => Sat.by [7, 7, 7, 7, 7, 7] 6 2 (by kernel_rfl) s)) ?_
      refine TA.all1 (i := 21) (by kernel_rfl) ?_
      refine TB.of rfl ?_
      refine TO.pure (fun _ s => Rd.one (SN.top (Ent.at 0 rfl)) s) fun ocq15_21_1 => ?_
      refine TO.stB (us := [vq15_18_4]) 4 [I a0.1, vq15_18_4, h0_3, h0_5, h0_7] rfl rfl rfl ksizeB_145_1_true ocq15_21_1.2 rfl rfl (by intro u hu; simp only [List.mem_cons, List.not_mem_nil, or_false] at hu; rcases hu with rfl <;> first | exact ocq15_21_1.1 | rfl) rfl ?_
      refine TA.back (.inl (by kernel_rfl)) ?_
      refine TA.asL (L' := (SN 211 2 nT211 vq15_18_4 hsq15_18_5 (yq15_18_2) :: OwnS 211 2 vq15_17_1 ([()].map (fun (_ : Unit) => [I a1.2.1, vq15_15_3])) :: Bx b10 106 [I a1.1, I a1.2.1, I a1.2.2.1, I a1.2.2.2] :: Bx b9 144 [.pointer (some ⟨b0_, 0, none⟩)] :: Bx b0_ 148 [I a0.1, vq15_18_4, h0_3, h0_5, h0_7] :: SS 22 3 1 cI h0_3 h0_4 (a0.2.2.1) :: SS 22 3 1 cI h0_5 h0_6 (a0.2.2.2.1) :: SN 149 1 nT149 h0_7 h0_8 (a0.2.2.2.2) :: L)) (listed' := #[true, true, true, true, true, true, true, true, true, true, true, true, true, true, true, true, true, true, true, true, true, true]) (by kernel_rfl) (by kernel_rfl) ?_
      refine TA.code (by kernel_rfl) ?_
      refine TC.k ?_
      refine TC.region_tail 9 kfollows_mixedOrders_true (by kernel_rfl) ?_
      refine TS.s rfl rfl rfl (StepS.ldB rfl (Ent.at 3 rfl) kscalB_144_true rfl) ?_
      refine TS.s rfl rfl rfl (StepS.fld rfl kfieldB_106_1_1_true) ?_
      refine TS.s rfl rfl rfl (StepS.ldB rfl (Ent.at 2 rfl) kscalB_3_true rfl) ?_
      refine TS.s rfl rfl rfl (StepS.ldB rfl (Ent.at 3 rfl) kscalB_144_true rfl) ?_
      refine TS.s rfl rfl rfl (StepS.nilc rfl) ?_
      refine TS.s rfl rfl rfl (StepS.fld rfl kfieldB_148_1_1_true) ?_
      refine TS.s rfl rfl rfl (StepS.ldB rfl (Ent.at 4 rfl) kscalB_145_true rfl) ?_
      refine TS.s rfl rfl rfl (StepS.lenN rfl (Ent.at 0 rfl) ksliceB_145_211_2_true rfl) ?_
      refine TS.s rfl rfl rfl (StepS.ari rfl rfl rfl) ?_
      refine TS.nil ?_
      refine TO.at ?_
      refine TO.ghost (fun _ s => Sat.front 6 rfl s) ?_
      refine TO.ghost (fun _ s => Sat.front 6 rfl s) ?_
      refine TO.ghost (fun _ s => Sat.front 2 rfl s) ?_
      refine TO.ghost (fun _ s => Sat.front 6 rfl s) ?_
      obtain ⟨r16, hc17, hm⟩ := bind_some hm
      refine TO.callO kcallB_97_true rfl rfl rfl (fun _ st => C97 (a0 := (yq15_18_2, a0.2.2.1, a0.2.2.2.1))  hc17 st) ?_
      rintro _ _ ⟨hs18, hs20, hs22, rfl, rfl⟩
      refine TO.code ?_
      refine TC.k ?_
      refine TC.region ?_
      refine TO.s rfl rfl rfl (StepS.assign rfl) ?_
      refine TO.code ?_
      cases hm
      refine TC.ret fun a w e s => ?_
      refine FRet.mk1 (P := Try.prog) (fn := Try.f65) (t := 4) e rfl rfl ?_
      refine ⟨_, _, rfl, ⟨(vq15_18_4), (hs18), (hs20), (hs22), (h0_8), rfl, rfl⟩, ?_⟩
      refine s.mono fun _ s => ?_
      exact Sat.by [7, 4, 4, 4, 4] 5 3 (by kernel_rfl) s
  · replace hm := cond_f hc11 hm
    refine TC.k ?_
    refine TC.region ?_
    refine TO.s rfl rfl rfl (StepS.cmp rfl rfl rfl) ?_
    refine TO.s rfl rfl rfl (StepS.assign rfl) ?_
    refine TO.code ?_
    refine TC.cond rfl (fun hc24 => ?_) (fun hc24 => ?_)
    · replace hm := cond_t hc24 hm
      refine TC.k ?_
      refine TC.block ?_
      refine TC.k ?_
      refine TC.region ?_
      refine TO.s rfl rfl rfl (StepS.move rfl) ?_
      refine TO.s rfl rfl rfl (StepS.fld rfl kfieldB_106_2_2_true) ?_
      refine TO.s rfl rfl rfl (StepS.ldB rfl (Ent.at 0 rfl) kscalB_3_true rfl) ?_
      obtain ⟨r25, hc26, hm⟩ := bind_some hm
      refine TO.q rfl rfl rfl (StepQ.callC kcallB_96_true rfl rfl rfl (fun _ st => C96 (Ent.at 1 rfl) (Ent.at 2 rfl) hc26 st)) ?_
      refine TO.s rfl rfl rfl (StepS.assign rfl) ?_
      refine TO.code ?_
      refine TC.cond rfl (fun hc27 => ?_) (fun hc27 => ?_)
      · replace hm := cond_t hc27 hm
        refine TC.k ?_
        refine TC.region ?_
        refine TO.s rfl rfl rfl (StepS.assign rfl) ?_
        refine TO.code ?_
        cases hm
        refine TC.ret fun a w e s => ?_
        refine FRet.mk1 (P := Try.prog) (fn := Try.f65) (t := 4) e rfl rfl ?_
        refine ⟨_, _, rfl, ⟨(h0_1), (h0_2), (h0_4), (h0_6), (h0_8), rfl, rfl⟩, ?_⟩
        refine s.mono fun _ s => ?_
        exact Sat.by [6, 6, 6, 6, 6] 5 2 (by kernel_rfl) s
      · replace hm := cond_f hc27 hm
        refine TC.k ?_
        refine TC.region_still kfollows_mixedOrders_true (by kernel_rfl) ?_
        refine TS.s rfl rfl rfl (StepS.fld rfl kfieldB_106_3_3_true) ?_
        refine TS.s rfl rfl rfl (StepS.ldB rfl (Ent.at 0 rfl) kscalB_3_true rfl) ?_
        refine TS.s rfl rfl rfl (StepS.cmp rfl rfl rfl) ?_
        refine TS.s rfl rfl rfl (StepS.move rfl) ?_
        refine TS.mid1 9 66 (.bool ((decide (a1.2.2.2 < 0)) || (decide (a1.2.2.2 ≥ (a0.2.1.length : Int))))) ?_ ?_
        · refine bcase ((decide (a1.2.2.2 < 0))) (fun hb28 => ?_) (fun hb28 => ?_)
          · refine TS.skip rfl rfl rfl (skipT hb28) rfl rfl ?_
            refine TS.skip rfl rfl rfl (skipT hb28) rfl rfl ?_
            refine TS.skip rfl rfl rfl (skipT hb28) rfl rfl ?_
            refine TS.skip rfl rfl rfl (skipT hb28) rfl rfl ?_
            refine TS.skip rfl rfl rfl (skipT hb28) rfl rfl ?_
            refine TS.skip rfl rfl rfl (skipT hb28) rfl rfl ?_
            refine TS.skip rfl rfl rfl (skipT hb28) rfl rfl ?_
            refine TS.skip rfl rfl rfl (skipT hb28) rfl rfl ?_
            refine TS.s rfl rfl rfl (StepS.pickT rfl hb28 rfl) ?_
            exact TS.up1 9 0 rfl rfl (by rw [hb28]; rfl) rfl
          · refine TS.sw rfl rfl rfl hb28 rfl rfl (StepS.fld rfl kfieldB_106_3_3_true) ?_
            refine TS.sw rfl rfl rfl hb28 rfl rfl (StepS.ldB rfl (Ent.at 0 rfl) kscalB_3_true rfl) ?_
            refine TS.sw rfl rfl rfl hb28 rfl rfl (StepS.ldB rfl (Ent.at 1 rfl) kscalB_144_true rfl) ?_
            refine TS.sw rfl rfl rfl hb28 rfl rfl (StepS.nilc rfl) ?_
            refine TS.sw rfl rfl rfl hb28 rfl rfl (StepS.fld rfl kfieldB_148_1_1_true) ?_
            refine TS.sw rfl rfl rfl hb28 rfl rfl (StepS.ldB rfl (Ent.at 2 rfl) kscalB_145_true rfl) ?_
            refine TS.sw rfl rfl rfl hb28 rfl rfl (StepS.lenN rfl (Ent.at 3 rfl) ksliceB_145_211_2_true rfl) ?_
            refine TS.sw rfl rfl rfl hb28 rfl rfl (StepS.cmp rfl rfl rfl) ?_
            refine TS.s rfl rfl rfl (StepS.pickF rfl hb28 rfl) ?_
            exact TS.up1 9 0 rfl rfl (by rw [hb28]; rfl) rfl
        refine TS.s rfl rfl rfl (StepS.assign rfl) ?_
        refine TS.code ?_
        refine TC.cond rfl (fun hc29 => ?_) (fun hc29 => ?_)
        · replace hm := cond_t hc29 hm
          refine TC.k ?_
          refine TC.region ?_
          refine TO.s rfl rfl rfl (StepS.assign rfl) ?_
          refine TO.code ?_
          cases hm
          refine TC.ret fun a w e s => ?_
          refine FRet.mk1 (P := Try.prog) (fn := Try.f65) (t := 4) e rfl rfl ?_
          refine ⟨_, _, rfl, ⟨(h0_1), (h0_2), (h0_4), (h0_6), (h0_8), rfl, rfl⟩, ?_⟩
          refine s.mono fun _ s => ?_
          exact Sat.by [6, 6, 6, 6, 6] 5 2 (by kernel_rfl) s
        · replace hm := cond_f hc29 hm
          refine TC.k ?_
          refine TC.region_still kfollows_mixedOrders_true (by kernel_rfl) ?_
          refine TS.s rfl rfl rfl (StepS.ldB rfl (Ent.at 1 rfl) kscalB_144_true rfl) ?_
          refine TS.s rfl rfl rfl (StepS.nilc rfl) ?_
          refine TS.s rfl rfl rfl (StepS.fld rfl kfieldB_148_1_1_true) ?_
          refine TS.s rfl rfl rfl (StepS.ldB rfl (Ent.at 2 rfl) kscalB_145_true rfl) ?_
          refine TS.s rfl rfl rfl (StepS.fld rfl kfieldB_106_3_3_true) ?_
          refine TS.s rfl rfl rfl (StepS.ldB rfl (Ent.at 0 rfl) kscalB_3_true rfl) ?_
          obtain ⟨x30, hx31, hm⟩ := bind_some hm
          refine TS.s rfl rfl rfl (StepS.idxN rfl rfl (Ent.at 3 rfl) ksliceB_145_211_2_true hx31) ?_
          refine TS.s rfl rfl rfl (StepS.ptrf rfl kfieldB_211_0_0_true) ?_
          refine TS.s rfl rfl rfl (StepS.ldN (j := 0) rfl (Ent.at 3 rfl) kscalB_3_true hx31 rfl rfl) ?_
          refine TS.s rfl rfl rfl (StepS.fld rfl kfieldB_106_2_2_true) ?_
          refine TS.s rfl rfl rfl (StepS.ldB rfl (Ent.at 0 rfl) kscalB_3_true rfl) ?_
          refine TS.s rfl rfl rfl (StepS.cmp rfl rfl rfl) ?_
          refine TS.s rfl rfl rfl (StepS.move rfl) ?_
          obtain ⟨b33, hj34, hm⟩ := bind_some hm
          refine TS.mid1 12 92 (.bool b33) ?_ ?_
          · refine bcase ((x30.1 == a1.2.2.1)) (fun hb32 => ?_) (fun hb32 => ?_)
            · replace hj34 := cond_t hb32 hj34
              cases hj34
              refine TS.skip rfl rfl rfl (skipT hb32) rfl rfl ?_
              refine TS.skip rfl rfl rfl (skipT hb32) rfl rfl ?_
              refine TS.skip rfl rfl rfl (skipT hb32) rfl rfl ?_
              refine TS.skip rfl rfl rfl (skipT hb32) rfl rfl ?_
              refine TS.skip rfl rfl rfl (skipT hb32) rfl rfl ?_
              refine TS.skip rfl rfl rfl (skipT hb32) rfl rfl ?_
              refine TS.skip rfl rfl rfl (skipT hb32) rfl rfl ?_
              refine TS.skip rfl rfl rfl (skipT hb32) rfl rfl ?_
              refine TS.skip rfl rfl rfl (skipT hb32) rfl rfl ?_
              refine TS.skip rfl rfl rfl (skipT hb32) rfl rfl ?_
              refine TS.skip rfl rfl rfl (skipT hb32) rfl rfl ?_
              refine TS.s rfl rfl rfl (StepS.pickT rfl hb32 rfl) ?_
              exact TS.up1 12 0 rfl rfl rfl rfl
            · replace hj34 := cond_f hb32 hj34
              refine TS.sw rfl rfl rfl hb32 rfl rfl (StepS.ldB rfl (Ent.at 1 rfl) kscalB_144_true rfl) ?_
              refine TS.sw rfl rfl rfl hb32 rfl rfl (StepS.nilc rfl) ?_
              refine TS.sw rfl rfl rfl hb32 rfl rfl (StepS.fld rfl kfieldB_148_4_4_true) ?_
              refine TS.sw rfl rfl rfl hb32 rfl rfl (StepS.ldB rfl (Ent.at 2 rfl) kscalB_146_true rfl) ?_
              refine TS.sw rfl rfl rfl hb32 rfl rfl (StepS.fld rfl kfieldB_106_2_2_true) ?_
              refine TS.sw rfl rfl rfl hb32 rfl rfl (StepS.ldB rfl (Ent.at 0 rfl) kscalB_3_true rfl) ?_
              obtain ⟨x35, hx36, hj34⟩ := bind_some hj34
              refine TS.sw rfl rfl rfl hb32 rfl rfl (StepS.idxN rfl rfl (Ent.at 6 rfl) ksliceB_146_149_1_true hx36) ?_
              refine TS.sw rfl rfl rfl hb32 rfl rfl (StepS.ldN (j := 0) rfl (Ent.at 6 rfl) kscalB_149_true hx36 rfl rfl) ?_
              refine TS.sw rfl rfl rfl hb32 rfl rfl (StepS.fld rfl kfieldB_106_3_3_true) ?_
              refine TS.sw rfl rfl rfl hb32 rfl rfl (StepS.ldB rfl (Ent.at 0 rfl) kscalB_3_true rfl) ?_
              refine TS.sw rfl rfl rfl hb32 rfl rfl (StepS.lookF (k := a1.2.2.2) kmapGB_149_3_4_true (KeyOk.int kunderlying_3_some_int_i64) kinfo_4_bind_zero_some_bool_false rfl (SN.piece (Ent.at 6 rfl) hx36 0 rfl) rfl (getD_vf (vf := (fun x : Bool => .bool x)) (x35 a1.2.2.2) false)) ?_
              cases hj34
              refine TS.s rfl rfl rfl (StepS.pickF rfl hb32 rfl) ?_
              exact TS.up1 12 0 rfl rfl rfl rfl
          refine TS.s rfl rfl rfl (StepS.assign rfl) ?_
          refine TS.code ?_
          refine TC.cond rfl (fun hc38 => ?_) (fun hc38 => ?_)
          · replace hm := cond_t hc38 hm
            refine TC.k ?_
            refine TC.region ?_
            refine TO.s rfl rfl rfl (StepS.assign rfl) ?_
            refine TO.code ?_
            cases hm
            refine TC.ret fun a w e s => ?_
            refine FRet.mk1 (P := Try.prog) (fn := Try.f65) (t := 4) e rfl rfl ?_
            refine ⟨_, _, rfl, ⟨(h0_1), (h0_2), (h0_4), (h0_6), (h0_8), rfl, rfl⟩, ?_⟩
            refine s.mono fun _ s => ?_
            exact Sat.by [6, 6, 6, 6, 6] 5 2 (by kernel_rfl) s
          · replace hm := cond_f hc38 hm
            refine TC.skipk ?_
            refine TC.k ?_
            refine TC.region_tail 10 kfollows_mixedOrders_true (by kernel_rfl) ?_
            refine TS.s rfl rfl rfl (StepS.ldB rfl (Ent.at 1 rfl) kscalB_144_true rfl) ?_
            refine TS.s rfl rfl rfl (StepS.nilc rfl) ?_
            refine TS.s rfl rfl rfl (StepS.fld rfl kfieldB_148_4_4_true) ?_
            refine TS.s rfl rfl rfl (StepS.ldB rfl (Ent.at 2 rfl) kscalB_146_true rfl) ?_
            refine TS.s rfl rfl rfl (StepS.fld rfl kfieldB_106_2_2_true) ?_
            refine TS.s rfl rfl rfl (StepS.ldB rfl (Ent.at 0 rfl) kscalB_3_true rfl) ?_
            obtain ⟨x39, hx40, hm⟩ := bind_some hm
            refine TS.s rfl rfl rfl (StepS.idxN rfl rfl (Ent.at 6 rfl) ksliceB_146_149_1_true hx40) ?_
            refine TS.s rfl rfl rfl (StepS.ldN (j := 0) rfl (Ent.at 6 rfl) kscalB_149_true hx40 rfl rfl) ?_
            refine TS.s rfl rfl rfl (StepS.fld rfl kfieldB_106_3_3_true) ?_
            refine TS.s rfl rfl rfl (StepS.ldB rfl (Ent.at 0 rfl) kscalB_3_true rfl) ?_
            refine TS.nil ?_
            refine TO.at ?_
            refine TO.ghost (fun _ s => Sat.front 6 rfl s) ?_
            refine TO.openN (L' := (MF (fun k : Int => I k) (fun x : Bool => .bool x) (mv (cv (gr h0_8 a1.2.2.1.toNat) 0)) (x39) :: SNh 149 1 nT149 h0_7 h0_8 (a0.2.2.2.2) a1.2.2.1.toNat [.map (some (mv (cv (gr h0_8 a1.2.2.1.toNat) 0)))] :: Bx b10 106 [I a1.1, I a1.2.1, I a1.2.2.1, I a1.2.2.2] :: Bx b9 144 [.pointer (some ⟨b0_, 0, none⟩)] :: Bx b0_ 148 [I a0.1, h0_1, h0_3, h0_5, h0_7] :: SN 211 2 nT211 h0_1 h0_2 (a0.2.1) :: SS 22 3 1 cI h0_3 h0_4 (a0.2.2.1) :: SS 22 3 1 cI h0_5 h0_6 (a0.2.2.2.1) :: L)) rfl hx40 rfl ?_
            refine TO.msetF (k := a1.2.2.2) (v := true) 0 kmapGB_149_3_4_true (KeyOk.int kunderlying_3_some_int_i64) rfl rfl rfl rfl ?_
            refine TO.ghost (fun _ s => Sat.front 1 rfl s) ?_
            refine TO.ghost (fun _ s => Sat.front 1 rfl s) ?_
            obtain ⟨y44, hy45, hm⟩ := bind_some hm
            refine TO.closeN (T := nT149) (cs := [.map (some (mv (cv (gr h0_8 a1.2.2.1.toNat) 0)))]) [.map (some (mv (cv (gr h0_8 a1.2.2.1.toNat) 0)))] (mupd x39 a1.2.2.2 true) rfl rfl hx40 (Option.some.inj hy45) fun hs43 => ?_
            refine TO.code ?_
            refine TC.k ?_
            refine TC.region ?_
            refine TO.s rfl rfl rfl (StepS.ldB rfl (Ent.at 2 rfl) kscalB_144_true rfl) ?_
            refine TO.s rfl rfl rfl (StepS.fld rfl kfieldB_106_2_2_true) ?_
            refine TO.s rfl rfl rfl (StepS.ldB rfl (Ent.at 1 rfl) kscalB_3_true rfl) ?_
            refine TO.ghost (fun _ s => Sat.front 6 rfl s) ?_
            refine TO.ghost (fun _ s => Sat.front 6 rfl s) ?_
            refine TO.ghost (fun _ s => Sat.front 6 rfl s) ?_
            refine TO.ghost (fun _ s => Sat.front 6 rfl s) ?_
            obtain ⟨r46, hc47, hm⟩ := bind_some hm
            refine TO.callO kcallB_98_true rfl rfl rfl (fun _ st => C98 (a0 := (a0.2.1, a0.2.2.1, a0.2.2.2.1, y44))  hc47 st) ?_
            rintro _ _ ⟨hs48, hs50, hs52, hs54, rfl, rfl⟩
            refine TO.code ?_
            refine TC.k ?_
            refine TC.region ?_
            refine TO.s rfl rfl rfl (StepS.assign rfl) ?_
            refine TO.code ?_
            cases hm
            refine TC.ret fun a w e s => ?_
            refine FRet.mk1 (P := Try.prog) (fn := Try.f65) (t := 4) e rfl rfl ?_
            refine ⟨_, _, rfl, ⟨(h0_1), (hs48), (hs50), (hs52), (hs54), rfl, rfl⟩, ?_⟩
            refine s.mono fun _ s => ?_
            exact Sat.by [4, 4, 4, 4, 4] 5 2 (by kernel_rfl) s
    · replace hm := cond_f hc24 hm
      refine TC.skipk ?_
      refine TC.k ?_
      refine TC.region ?_
      refine TO.s rfl rfl rfl (StepS.assign rfl) ?_
      refine TO.code ?_
      cases hm
      refine TC.ret fun a w e s => ?_
      refine FRet.mk1 (P := Try.prog) (fn := Try.f65) (t := 4) e rfl rfl ?_
      refine ⟨_, _, rfl, ⟨(h0_1), (h0_2), (h0_4), (h0_6), (h0_8), rfl, rfl⟩, ?_⟩
      refine s.mono fun _ s => ?_
      exact Sat.by [6, 6, 6, 6, 6] 5 2 (by kernel_rfl) s

set_option maxRecDepth 100000 in
theorem C31 {B : World} {L : List HP} {a0 : Int} {a1 : List (Int × Int × Int × Int)} {h1 : Value} {r0 : (List Int) × List (List Int)} {r1 : Int} (e1 : Ent L (Rd 4 h1 (a1.map cTiiii))) (hm : F31 a0 a1 = some (r0, r1)) {w : World} (st : St B L w) : Calls Try.prog 31 #[I a0, h1] w (fun e w' => ∃ v M, e = .returned v ∧ (∃ (qv1 : Value) (qv2 : Value) (qhs3 : List Value), v = .tuple #[.agg #[qv1, qv2], I r1] ∧ M = (OwnS 28 1 qv1 (r0.1.map cI) :: SS 22 3 1 cI qv2 qhs3 (r0.2) :: L)) ∧ St B M w') := by
  refine calls_of (N := 71) (L := L) (args := [I a0, h1]) Try.func31 rfl rfl rfl ?_ st
  dsimp only [F31] at hm
  refine TC.k ?_
  refine TC.region ?_
  refine TO.alloc kinfo_63_bind_zero_some_agg_slice_none_0_0_slice_none_0_0 rfl rfl fun b3 => ?_
  refine TO.s rfl rfl rfl (StepS.assign rfl) ?_
  refine TO.code ?_
  refine TC.k ?_
  refine TC.k ?_
  refine TC.region ?_
  refine TO.s rfl rfl rfl (StepS.move rfl) ?_
  refine TO.s rfl rfl rfl (StepS.cmp rfl rfl rfl) ?_
  refine TO.s rfl rfl rfl (StepS.move rfl) ?_
  refine TO.mid1 3 15 (.bool ((decide (a0 < 1)) || (decide (a0 > 6)))) ?_ ?_
  · refine bcase ((decide (a0 < 1))) (fun hb4 => ?_) (fun hb4 => ?_)
    · refine TO.skip rfl rfl rfl (skipT hb4) rfl rfl ?_
      refine TO.skip rfl rfl rfl (skipT hb4) rfl rfl ?_
      refine TO.s rfl rfl rfl (StepS.pickT rfl hb4 rfl) ?_
      exact TO.up1 3 0 rfl rfl (by rw [hb4]; rfl) rfl
    · refine TO.sw rfl rfl rfl hb4 rfl rfl (StepS.move rfl) ?_
      refine TO.sw rfl rfl rfl hb4 rfl rfl (StepS.cmp rfl rfl rfl) ?_
      refine TO.s rfl rfl rfl (StepS.pickF rfl hb4 rfl) ?_
      exact TO.up1 3 0 rfl rfl (by rw [hb4]; rfl) rfl
  refine TO.s rfl rfl rfl (StepS.move rfl) ?_
  refine TO.mid1 4 20 (.bool (((decide (a0 < 1)) || (decide (a0 > 6))) || (decide ((a1.length : Int) > 60)))) ?_ ?_
  · refine bcase (((decide (a0 < 1)) || (decide (a0 > 6)))) (fun hb5 => ?_) (fun hb5 => ?_)
    · refine TO.skip rfl rfl rfl (skipT hb5) rfl rfl ?_
      refine TO.skip rfl rfl rfl (skipT hb5) rfl rfl ?_
      refine TO.skip rfl rfl rfl (skipT hb5) rfl rfl ?_
      refine TO.s rfl rfl rfl (StepS.pickT rfl hb5 rfl) ?_
      exact TO.up1 4 0 rfl rfl (by rw [hb5]; rfl) rfl
    · refine TO.sw rfl rfl rfl hb5 rfl rfl (StepS.move rfl) ?_
      refine TO.sw rfl rfl rfl hb5 rfl rfl (StepS.lenm rfl e1.tl ksliceB_23_106_4_true rfl) ?_
      refine TO.sw rfl rfl rfl hb5 rfl rfl (StepS.cmp rfl rfl rfl) ?_
      refine TO.s rfl rfl rfl (StepS.pickF rfl hb5 rfl) ?_
      exact TO.up1 4 0 rfl rfl (by rw [hb5]; rfl) rfl
  refine TO.code ?_
  refine TC.cond rfl (fun hc6 => ?_) (fun hc6 => ?_)
  · replace hm := cond_t hc6 hm
    refine TC.k ?_
    refine TC.region ?_
    refine TO.s rfl rfl rfl (StepS.build (cs := [.slice none 0 0, .slice none 0 0]) rfl (by kernel_rfl)) ?_
    refine TO.stB (us := [.slice none 0 0, .slice none 0 0]) 0 [.slice none 0 0, .slice none 0 0] rfl rfl rfl ksizeB_63_2_true rfl rfl rfl (by simp [Value.oneCell']) rfl ?_
    refine TO.s rfl rfl rfl (StepS.assign rfl) ?_
    refine TO.code ?_
    cases hm
    refine TC.ret fun a w e s => ?_
    refine FRet.cell2 (P := Try.prog) (fn := Try.f31) e s rfl rfl rfl (Ent.at 0 rfl) kaggB_63_2_true rfl ?_
    refine ⟨_, _, rfl, ⟨(.slice none 0 0), (.slice none 0 0), ([]), rfl, rfl⟩, ?_⟩
    refine s.mono fun _ s => ?_
    replace s := Sat.nilSS (e := 22) (ee := 3) (sz := 1) (f := cI) s
    replace s := Sat.nilS (e := 28) (sz := 1) (f := cI) s
    replace s := Sat.erase 2 s
    exact s
  · replace hm := cond_f hc6 hm
    refine TC.skipk ?_
    refine TC.k ?_
    refine TC.region ?_
    refine TO.s rfl rfl rfl (StepS.move rfl) ?_
    refine TO.s rfl rfl rfl (StepS.move rfl) ?_
    obtain ⟨y7, hk8, hm⟩ := bind_some hm
    refine TO.mkSSg (ee := 3) (sz := 1) (f := cI) kelemB_50_22_1_24_true kinfo_22_bind_zero_some_slice_none_0_0 rfl rfl hk8 rfl fun v9 hs10 => ?_
    refine TO.pure (fun _ s => Rd.one (RR.top (SS.rr (Ent.at 0 rfl))) s) fun oc12 => ?_
    refine TO.s rfl rfl rfl (StepS.buildS (us := [(0, I a0), (2, .agg #[v9])]) (cs := [I a0, .slice none 0 0, v9, .slice none 0 0, .slice none 0 0]) rfl (by simp only [List.map_cons, List.map_nil, oc12.2] <;> rfl) (by kernel_rfl)) ?_
    refine TO.box (cs := [I a0, .slice none 0 0, v9, .slice none 0 0, .slice none 0 0]) rfl rfl rfl fun b13 => ?_
    refine TO.s rfl rfl rfl (StepS.assign rfl) ?_
    refine TO.code ?_
    refine TC.k ?_
    refine TC.k ?_
    refine TC.region ?_
    refine TO.s rfl rfl rfl (StepS.move rfl) ?_
    refine TO.s rfl rfl rfl (StepS.move rfl) ?_
    refine TO.code ?_
    obtain ⟨o40, hw41, hm⟩ := bind_some hm
    refine TC.loop hw41 (fun (y17, y21, x22) => fun a w => ∃ v14 : Value, ∃ hs15 : List Value, ∃ v18 : Value, ∃ hs19 : List (List Value), Mid 71 B [(0, I a0), (1, h1), (4, .pointer (some ⟨b3, 0, none⟩)), (6, .pointer (some ⟨b13, 0, none⟩)), (27, I a0), (28, I x22)] (SS 22 3 1 cI v14 hs15 (y17) :: SN 149 1 nT149 v18 hs19 (y21) :: Bx b13 148 [I a0, .slice none 0 0, v9, v14, v18] :: SS 22 3 1 cI v9 hs10 (y7) :: Bx b3 63 [.slice none 0 0, .slice none 0 0] :: L) a w) (fun (y35, y39) => fun a w => ∃ v32 : Value, ∃ hs33 : List Value, ∃ v36 : Value, ∃ hs37 : List (List Value), Mid 71 B [(1, h1), (4, .pointer (some ⟨b3, 0, none⟩)), (6, .pointer (some ⟨b13, 0, none⟩))] (SS 22 3 1 cI v32 hs33 (y35) :: SN 149 1 nT149 v36 hs37 (y39) :: Bx b13 148 [I a0, .slice none 0 0, v9, v32, v36] :: SS 22 3 1 cI v9 hs10 (y7) :: Bx b3 63 [.slice none 0 0, .slice none 0 0] :: L) a w) (fun (_ : Unit) _ _ => False) ?_ ?_ ?_ ?_
    · rintro ⟨y17, y21, x22⟩ o40r hb42 a w ⟨v14, hs15, v18, hs19, he, hs⟩
      dsimp only [F31_L0] at hb42
      refine TC.use ?_ he hs
      refine TC.k ?_
      refine TC.region ?_
      refine TO.s rfl rfl rfl (StepS.cmp rfl rfl rfl) ?_
      refine TO.code ?_
      refine TC.k ?_
      refine TC.cond rfl (fun hc43 => ?_) (fun hc43 => ?_)
      · replace hb42 := cond_t hc43 hb42
        refine TC.skipk ?_
        refine TC.k ?_
        refine TC.block ?_
        refine TC.k ?_
        refine TC.region_any (SN 149 1 nT149 v18 hs19 (y21) :: Bx b13 148 [I a0, .slice none 0 0, v9, v14, v18] :: SS 22 3 1 cI v9 hs10 (y7) :: Bx b3 63 [.slice none 0 0, .slice none 0 0] :: L) 11 12 kfollows_mixedOrders_true rfl ?_
        refine TA.takeW 0 rfl rfl rfl rfl (StepS.move rfl) (by kernel_rfl) (by kernel_rfl) (by kernel_rfl) rfl (.inr (fun _ s => Sat.by [4, 4, 4, 4] 4 1 (by kernel_rfl) s)) ?_
        refine TA.takeW 1 rfl rfl rfl rfl (StepS.move rfl) (by kernel_rfl) (by kernel_rfl) (by kernel_rfl) rfl (.inr (fun _ s => Sat.by [4, 4, 4, 4] 4 1 (by kernel_rfl) s)) ?_
        refine TA.takeW 2 rfl rfl rfl rfl (StepS.nilc rfl) (by kernel_rfl) (by kernel_rfl) (by kernel_rfl) rfl (.inr (fun _ s => Sat.by [4, 4, 4, 4] 4 1 (by kernel_rfl) s)) ?_
        refine TA.takeW 3 rfl rfl rfl rfl (StepS.fld rfl kfieldB_148_3_3_true) (by kernel_rfl) (by kernel_rfl) (by kernel_rfl) rfl (.inr (fun _ s => Sat.by [4, 4, 4, 4] 4 1 (by kernel_rfl) s)) ?_
        refine TA.take 4 rfl rfl rfl rfl (StepS.ldB rfl (Ent.at 1 rfl) kscalB_50_true rfl) (by kernel_rfl) (by kernel_rfl) (by kernel_rfl) (by kernel_rfl) (by kernel_rfl) (fun _ s => Sat.by [4, 4, 4, 4] 4 1 (by kernel_rfl) s) ?_
        refine TA.takeW 5 rfl rfl rfl rfl (StepS.move rfl) (by kernel_rfl) (by kernel_rfl) (by kernel_rfl) rfl (.inr (fun _ s => Sat.by [4, 4, 4, 4] 4 1 (by kernel_rfl) s)) ?_
        refine TA.all1 (i := 6) (by kernel_rfl) ?_
        refine TB.of rfl ?_
        obtain ⟨yq44_6_1, hkq44_6_2, hb42⟩ := bind_some hb42
        refine TO.mkS (f := cI) (za := 0) kelemB_22_3_1_8_true kinfo_3_bind_zero_some_I_0 rfl (by decide) rfl rfl hkq44_6_2 rfl fun vq44_6_3 => ?_
        refine TA.back (.inr (fun _ s => Sat.by [5, 5, 5, 5] 4 2 (by kernel_rfl) s)) ?_
        refine TA.asL (L' := (OwnS 3 1 vq44_6_3 (yq44_6_1.map cI) :: SS 22 3 1 cI v14 hs15 (y17) :: SN 149 1 nT149 v18 hs19 (y21) :: Bx b13 148 [I a0, .slice none 0 0, v9, v14, v18] :: SS 22 3 1 cI v9 hs10 (y7) :: Bx b3 63 [.slice none 0 0, .slice none 0 0] :: L)) (listed' := #[true, true, true, true, true, true, true, false, false, false, false, false]) (by kernel_rfl) (by kernel_rfl) ?_
        refine TA.all1 (i := 7) (by kernel_rfl) ?_
        refine TB.of rfl ?_
        refine TO.lit1H rfl (OwnS.rd (Ent.at 0 rfl)) kelemB_50_22_1_24_true rfl fun vq44_7_1 => ?_
        refine TA.back (.inr (fun _ s => Sat.by [6, 6, 6, 6] 4 3 (by kernel_rfl) s)) ?_
        refine TA.asL (L' := (OwnS 22 1 vq44_7_1 ([()].map (fun (_ : Unit) => [vq44_6_3])) :: OwnS 3 1 vq44_6_3 (yq44_6_1.map cI) :: SS 22 3 1 cI v14 hs15 (y17) :: SN 149 1 nT149 v18 hs19 (y21) :: Bx b13 148 [I a0, .slice none 0 0, v9, v14, v18] :: SS 22 3 1 cI v9 hs10 (y7) :: Bx b3 63 [.slice none 0 0, .slice none 0 0] :: L)) (listed' := #[true, true, true, true, true, true, true, true, false, false, false, false]) (by kernel_rfl) (by kernel_rfl) ?_
        refine TA.all1 (i := 8) (by kernel_rfl) ?_
        refine TB.of rfl ?_
        refine TO.ghost (fun _ s => Sat.front 2 rfl s) ?_
        refine TO.ghost (fun _ s => Sat.front 2 rfl s) ?_
        obtain ⟨yq44_8_1, hkq44_8_2, hb42⟩ := bind_some hb42
        refine TO.appSS (row := yq44_6_1) rfl kelemB_50_22_1_24_true rfl rfl (OwnS.rd (Ent.at 0 rfl)) hkq44_8_2 rfl rfl fun vq44_8_3 hsq44_8_4 => ?_
        refine TA.back (.inr (fun _ s => Sat.by [5, 5, 5, 5] 4 2 (by kernel_rfl) s)) ?_
        refine TA.asL (L' := (SS 22 3 1 cI vq44_8_3 hsq44_8_4 (yq44_8_1) :: OwnS 22 1 vq44_7_1 ([()].map (fun (_ : Unit) => [vq44_6_3])) :: SN 149 1 nT149 v18 hs19 (y21) :: Bx b13 148 [I a0, .slice none 0 0, v9, v14, v18] :: SS 22 3 1 cI v9 hs10 (y7) :: Bx b3 63 [.slice none 0 0, .slice none 0 0] :: L)) (listed' := #[true, true, true, true, true, true, true, true, true, false, false, false]) (by kernel_rfl) (by kernel_rfl) ?_
        refine TA.takeW 9 rfl rfl rfl rfl (StepS.nilc rfl) (by kernel_rfl) (by kernel_rfl) (by kernel_rfl) rfl (.inr (fun _ s => Sat.by [5, 5, 5, 5] 4 2 (by kernel_rfl) s)) ?_
        refine TA.takeW 10 rfl rfl rfl rfl (StepS.fld rfl kfieldB_148_3_3_true) (by kernel_rfl) (by kernel_rfl) (by kernel_rfl) rfl (.inr (fun _ s => Sat.by [5, 5, 5, 5] 4 2 (by kernel_rfl) s)) ?_
        refine TA.all1 (i := 11) (by kernel_rfl) ?_
        refine TB.of rfl ?_
        refine TO.pure (fun _ s => Rd.one (RR.top (SS.rr (Ent.at 0 rfl))) s) fun ocq44_11_1 => ?_
        refine TO.stB (us := [vq44_8_3]) 3 [I a0, .slice none 0 0, v9, vq44_8_3, v18] rfl rfl rfl ksizeB_50_1_true ocq44_11_1.2 rfl rfl (by intro u hu; simp only [List.mem_cons, List.not_mem_nil, or_false] at hu; rcases hu with rfl <;> first | exact ocq44_11_1.1 | rfl) rfl ?_
        refine TA.back (.inl (by kernel_rfl)) ?_
        refine TA.asL (L' := (SS 22 3 1 cI vq44_8_3 hsq44_8_4 (yq44_8_1) :: OwnS 22 1 vq44_7_1 ([()].map (fun (_ : Unit) => [vq44_6_3])) :: SN 149 1 nT149 v18 hs19 (y21) :: Bx b13 148 [I a0, .slice none 0 0, v9, vq44_8_3, v18] :: SS 22 3 1 cI v9 hs10 (y7) :: Bx b3 63 [.slice none 0 0, .slice none 0 0] :: L)) (listed' := #[true, true, true, true, true, true, true, true, true, true, true, true]) (by kernel_rfl) (by kernel_rfl) ?_
        refine TA.code (by kernel_rfl) ?_
        refine TC.region ?_
        refine TO.s rfl rfl rfl (StepS.move rfl) ?_
        refine TO.s rfl rfl rfl (StepS.move rfl) ?_
        refine TO.s rfl rfl rfl (StepS.nilc rfl) ?_
        refine TO.s rfl rfl rfl (StepS.fld rfl kfieldB_148_4_4_true) ?_
        refine TO.s rfl rfl rfl (StepS.ldB rfl (Ent.at 3 rfl) kscalB_146_true rfl) ?_
        refine TO.mkMF (kf := (fun k : Int => I k)) (vf := (fun x : Bool => .bool x)) rfl fun r45 => ?_
        refine TO.litS (f := fun (_ : Unit) => [.map (some r45)]) [()] kelemB_146_149_1_8_true kinfo_149_bind_zero_some_map_none rfl rfl (fun _ => rfl) rfl rfl (by kernel_rfl) rfl fun v47 => ?_
        refine TO.ghost (fun _ s => Sat.front 4 rfl s) ?_
        refine TO.ghost (fun _ s => Sat.front 2 rfl s) ?_
        obtain ⟨y49, hk50, hb42⟩ := bind_some hb42
        refine TO.appN (T := nT149) (z := (mzero : Int → Option Bool)) [.map (some r45)] rfl kelemB_146_149_1_8_true (by decide) rfl rfl (OwnS.rd (Ent.at 0 rfl)) hk50 (by intro u hu; have hu : u ∈ [.map (some r45)] := hu; simp only [List.mem_cons, List.not_mem_nil, or_false] at hu; rcases hu with rfl <;> first | rfl) rfl rfl fun v51 hs52 => ?_
        refine TO.s rfl rfl rfl (StepS.nilc rfl) ?_
        refine TO.s rfl rfl rfl (StepS.fld rfl kfieldB_148_4_4_true) ?_
        refine TO.pure (fun _ s => Rd.one (SN.top (Ent.at 0 rfl)) s) fun oc53 => ?_
        refine TO.stB (us := [v51]) 4 [I a0, .slice none 0 0, v9, vq44_8_3, v51] rfl rfl rfl ksizeB_146_1_true oc53.2 rfl rfl (by intro u hu; simp only [List.mem_cons, List.not_mem_nil, or_false] at hu; rcases hu with rfl <;> first | exact oc53.1 | rfl) rfl ?_
        refine TO.code ?_
        refine TC.region ?_
        refine TO.s rfl rfl rfl (StepS.ari rfl rfl rfl) ?_
        refine TO.s rfl rfl rfl (StepS.move rfl) ?_
        cases hb42
        refine TO.nil fun a w e s => ?_
        exact ⟨vq44_8_3, hsq44_8_4, v51, hs52, e.sub (lk_of_allIn ⟨rfl, rfl, rfl, rfl, rfl, rfl, trivial⟩), s.mono fun _ s => (by exact Sat.by [6, 6, 6, 3, 5] 5 2 (by kernel_rfl) s)⟩
      · replace hb42 := cond_f hc43 hb42
        cases hb42
        refine TC.exit rfl fun a w e s => ?_
        exact ⟨v14, hs15, v18, hs19, e.sub (lk_of_allIn ⟨rfl, rfl, rfl, trivial⟩), s⟩
    · exact fun a w e s => ⟨.slice none 0 0, [], .slice none 0 0, [], e.sub (lk_of_allIn ⟨rfl, rfl, rfl, rfl, rfl, rfl, trivial⟩), s.mono fun _ s => (by replace s := Sat.nilSN (e := 149) (sz := 1) (T := nT149) s; replace s := Sat.nilSS (e := 22) (ee := 3) (sz := 1) (f := cI) s; exact Sat.by [4, 4, 4, 4, 4] 5 0 (by kernel_rfl) s)⟩
    · rintro ⟨y35, y39⟩ rfl a w ⟨v32, hs33, v36, hs37, he, hs⟩
      dsimp only [Ctl.on] at hm
      refine TC.use ?_ he hs
      refine TC.k ?_
      refine TC.region ?_
      refine TO.s rfl rfl rfl (StepS.assign rfl) ?_
      refine TO.code ?_
      refine TC.k ?_
      refine TC.k ?_
      refine TC.region ?_
      refine TO.s rfl rfl rfl (StepS.move rfl) ?_
      refine TO.s rfl rfl rfl (StepS.lenm rfl e1.tl.tl.tl.tl.tl ksliceB_23_106_4_true rfl) ?_
      refine TO.s rfl rfl rfl (StepS.move rfl) ?_
      refine TO.code ?_
      obtain ⟨o98, hw99, hm⟩ := bind_some hm
      refine TC.loop hw99 (fun (y56, y60, y61, y63, y65, x67, x68) => fun a w => ∃ v54 : Value, ∃ v57 : Value, ∃ hs58 : List (List Value), ∃ hs62 : List Value, ∃ hs64 : List (List Value), ∃ hs66 : List Value, Mid 71 B [(4, .pointer (some ⟨b3, 0, none⟩)), (6, .pointer (some ⟨b13, 0, none⟩)), (7, v54), (52, h1), (53, I (a1.length : Int)), (54, I x68)] (OwnS 28 1 v54 (y56.map cI) :: SN 211 2 nT211 v57 hs58 (y60) :: SS 22 3 1 cI v32 hs62 (y61) :: SN 149 1 nT149 v36 hs64 (y63) :: Bx b13 148 [I x67, v57, v9, v32, v36] :: SS 22 3 1 cI v9 hs66 (y65) :: Bx b3 63 [.slice none 0 0, .slice none 0 0] :: L) a w) (fun (y86, y90, y91, y93, y95, x97) => fun a w => ∃ v84 : Value, ∃ v87 : Value, ∃ hs88 : List (List Value), ∃ hs92 : List Value, ∃ hs94 : List (List Value), ∃ hs96 : List Value, Mid 71 B [(4, .pointer (some ⟨b3, 0, none⟩)), (6, .pointer (some ⟨b13, 0, none⟩)), (7, v84)] (OwnS 28 1 v84 (y86.map cI) :: SN 211 2 nT211 v87 hs88 (y90) :: SS 22 3 1 cI v32 hs92 (y91) :: SN 149 1 nT149 v36 hs94 (y93) :: Bx b13 148 [I x97, v87, v9, v32, v36] :: SS 22 3 1 cI v9 hs96 (y95) :: Bx b3 63 [.slice none 0 0, .slice none 0 0] :: L) a w) (fun (_ : Unit) _ _ => False) ?_ ?_ ?_ ?_
      · rintro ⟨y56, y60, y61, y63, y65, x67, x68⟩ o98r hb100 a w ⟨v54, v57, hs58, hs62, hs64, hs66, he, hs⟩
        dsimp only [F31_L1] at hb100
        refine TC.use ?_ he hs
        refine TC.k ?_
        refine TC.region ?_
        refine TO.s rfl rfl rfl (StepS.cmp rfl rfl rfl) ?_
        refine TO.code ?_
        refine TC.k ?_
        refine TC.cond rfl (fun hc101 => ?_) (fun hc101 => ?_)
        · replace hb100 := cond_t hc101 hb100
          refine TC.skipk ?_
          refine TC.k ?_
          refine TC.block ?_
          refine TC.k ?_
          refine TC.region ?_
          obtain ⟨x102, hx103, hb100⟩ := bind_some hb100
          refine TO.s rfl rfl rfl (StepS.idx rfl rfl e1.tl.tl.tl.tl.tl.tl.tl ksliceB_23_106_4_true (idx_spec hx103).1 (idxm_lt hx103)) ?_
          refine TO.s rfl rfl rfl (StepS.ldE rfl e1.tl.tl.tl.tl.tl.tl.tl kaggB_106_4_true rfl (idxm hx103)) ?_
          refine TO.alloc kinfo_106_bind_zero_some_agg_I_0_I_0_I_0_I_0 rfl rfl fun b104 => ?_
          refine TO.stB (us := [I x102.1, I x102.2.1, I x102.2.2.1, I x102.2.2.2]) 0 [I x102.1, I x102.2.1, I x102.2.2.1, I x102.2.2.2] rfl rfl rfl ksizeB_106_4_true rfl rfl rfl (by simp [Value.oneCell']) rfl ?_
          refine TO.code ?_
          refine TC.region ?_
          refine TO.s rfl rfl rfl (StepS.move rfl) ?_
          refine TO.s rfl rfl rfl (StepS.move rfl) ?_
          refine TO.s rfl rfl rfl (StepS.ldBA rfl (Ent.at 0 rfl) kaggB_106_4_true rfl rfl) ?_
          refine TO.ghost (fun _ s => Sat.front 4 rfl s) ?_
          refine TO.ghost (fun _ s => Sat.front 4 rfl s) ?_
          refine TO.ghost (fun _ s => Sat.front 6 rfl s) ?_
          refine TO.ghost (fun _ s => Sat.front 5 rfl s) ?_
          refine TO.ghost (fun _ s => Sat.front 6 rfl s) ?_
          obtain ⟨⟨r105, r106⟩, hc107, hb100⟩ := bind_some hb100
          refine TO.callO kcallB_65_true rfl rfl rfl (fun _ st => C65 (a0 := (x67, y60, y65, y61, y63))  hc107 st) ?_
          rintro _ _ ⟨v108, hs109, hs111, hs113, hs115, rfl, rfl⟩
          refine TO.litS (f := cI) ([r105] : List Int) kelemB_24_28_1_8_true kinfo_28_bind_zero_some_I_0 rfl rfl (fun _ => rfl) rfl rfl (by kernel_rfl) rfl fun v117 => ?_
          obtain ⟨y119, hk120, hb100⟩ := bind_some hb100
          refine TO.app (k := 7) (f := cI) kelemB_24_28_1_8_true (by decide) rfl rfl rfl (OwnS.rd (Ent.at 0 rfl)) hk120 (fun x c hc => by simp [Value.oneCell'] at hc ⊢; first | (obtain rfl := hc; rfl) | (rcases hc with rfl <;> rfl)) rfl rfl fun v121 => ?_
          refine TO.s rfl rfl rfl (StepS.assign rfl) ?_
          refine TO.code ?_
          refine TC.region ?_
          refine TO.s rfl rfl rfl (StepS.ari rfl rfl rfl) ?_
          refine TO.s rfl rfl rfl (StepS.move rfl) ?_
          cases hb100
          refine TO.nil fun a w e s => ?_
          exact ⟨v121, v108, hs109, hs113, hs115, hs111, e.sub (lk_of_allIn ⟨rfl, rfl, rfl, rfl, rfl, rfl, trivial⟩), s.mono fun _ s => (by exact Sat.by [8, 4, 3, 6, 6, 6, 8] 7 2 (by kernel_rfl) s)⟩
        · replace hb100 := cond_f hc101 hb100
          cases hb100
          refine TC.exit rfl fun a w e s => ?_
          exact ⟨v54, v57, hs58, hs62, hs64, hs66, e.sub (lk_of_allIn ⟨rfl, rfl, rfl, trivial⟩), s⟩
      · exact fun a w e s => ⟨.slice none 0 0, .slice none 0 0, [], hs33, hs37, hs10, e.sub (lk_of_allIn ⟨rfl, rfl, rfl, rfl, rfl, rfl, trivial⟩), s.mono fun _ s => (by replace s := Sat.nilSN (e := 211) (sz := 2) (T := nT211) s; replace s := Sat.nilS (e := 28) (sz := 1) (f := cI) s; exact Sat.by [6, 6, 6, 6, 6, 6, 6] 7 0 (by kernel_rfl) s)⟩
      · rintro ⟨y86, y90, y91, y93, y95, x97⟩ rfl a w ⟨v84, v87, hs88, hs92, hs94, hs96, he, hs⟩
        dsimp only [Ctl.on] at hm
        refine TC.use ?_ he hs
        refine TC.k ?_
        refine TC.region ?_
        refine TO.s rfl rfl rfl (StepS.move rfl) ?_
        refine TO.s rfl rfl rfl (StepS.move rfl) ?_
        refine TO.s rfl rfl rfl (StepS.nilc rfl) ?_
        refine TO.s rfl rfl rfl (StepS.fld rfl kfieldB_148_2_2_true) ?_
        refine TO.s rfl rfl rfl (StepS.ldB rfl (Ent.at 4 rfl) kscalB_50_true rfl) ?_
        refine TO.pure (fun _ s => Rd.one (OwnS.rd (Ent.at 0 rfl)) s) fun oc122 => ?_
        refine TO.pure (fun _ s => Rd.one (RR.top (SS.rr (Ent.at 5 rfl))) s) fun oc123 => ?_
        refine TO.s rfl rfl rfl (StepS.buildS (us := [(0, .agg #[v84]), (1, .agg #[v9])]) (cs := [v84, v9]) rfl (by simp only [List.map_cons, List.map_nil, oc122.2, oc123.2] <;> rfl) (by kernel_rfl)) ?_
        refine TO.pure (fun _ s => Rd.one (OwnS.rd (Ent.at 0 rfl)) s) fun oc124 => ?_
        refine TO.pure (fun _ s => Rd.one (RR.top (SS.rr (Ent.at 5 rfl))) s) fun oc125 => ?_
        refine TO.stB (us := [v84, v9]) 6 [v84, v9] rfl rfl rfl ksizeB_63_2_true rfl rfl rfl (by intro u hu; simp only [List.mem_cons, List.not_mem_nil, or_false] at hu; rcases hu with rfl | rfl <;> first | exact oc124.1 | exact oc125.1 | rfl) rfl ?_
        refine TO.s rfl rfl rfl (StepS.assign rfl) ?_
        refine TO.code ?_
        cases hm
        refine TC.ret fun a w e s => ?_
        refine FRet.cell2 (P := Try.prog) (fn := Try.f31) e s rfl rfl rfl (Ent.at 6 rfl) kaggB_63_2_true rfl ?_
        refine ⟨_, _, rfl, ⟨(v84), (v9), (hs96), rfl, rfl⟩, ?_⟩
        refine s.mono fun _ s => ?_
        replace s := Sat.front 5 rfl s
        replace s := Sat.front 1 rfl s
        replace s := Sat.erase 2 s
        replace s := Sat.erase 2 s
        replace s := Sat.erase 2 s
        replace s := Sat.erase 2 s
        replace s := Sat.erase 2 s
        exact s
      · rintro r rfl
        exact fun a w h => h.elim
    · rintro r rfl
      exact fun a w h => h.elim

set_option maxHeartbeats 4000000 in
set_option maxRecDepth 100000 in
theorem C32 {B : World} {L : List HP} {a0 : Int} {a1 : List (Int × Int × Int × Int)} {h1 : Value} {r0 : (List Int) × List (List Int)} (e1 : Ent L (Rd 4 h1 (a1.map cTiiii))) (hm : F32 a0 a1 = some r0) {w : World} (st : St B L w) : Calls Try.prog 32 #[I a0, h1] w (fun e w' => ∃ v M, e = .returned v ∧ (∃ (qv1 : Value) (qv2 : Value) (qhs3 : List Value), v = .agg #[qv1, qv2] ∧ M = (OwnS 28 1 qv1 (r0.1.map cI) :: SS 22 3 1 cI qv2 qhs3 (r0.2) :: L)) ∧ St B M w') := by
  refine calls_of (N := 196) (L := L) (args := [I a0, h1]) Try.func32 rfl rfl rfl ?_ st
  dsimp only [F32] at hm
  refine TC.k ?_
  refine TC.region ?_
  refine TO.alloc kinfo_63_bind_zero_some_agg_slice_none_0_0_slice_none_0_0 rfl rfl fun b3 => ?_
  refine TO.code ?_
  refine TC.k ?_
  refine TC.region ?_
  refine TO.s rfl rfl rfl (StepS.move rfl) ?_
  obtain ⟨y4, hk5, hm⟩ := bind_some hm
  refine TO.mkSSg (ee := 3) (sz := 1) (f := cI) kelemB_50_22_1_24_true kinfo_22_bind_zero_some_slice_none_0_0 rfl rfl hk5 rfl fun v6 hs7 => ?_
  refine TO.pure (fun _ s => Rd.one (RR.top (SS.rr (Ent.at 0 rfl))) s) fun oc9 => ?_
  refine TO.s rfl rfl rfl (StepS.buildS (us := [(1, .agg #[v6])]) (cs := [.slice none 0 0, v6]) rfl (by simp only [List.map_cons, List.map_nil, oc9.2] <;> rfl) (by kernel_rfl)) ?_
  refine TO.alloc kinfo_63_bind_zero_some_agg_slice_none_0_0_slice_none_0_0 rfl rfl fun b10 => ?_
  refine TO.pure (fun _ s => Rd.one (RR.top (SS.rr (Ent.at 1 rfl))) s) fun oc11 => ?_
  refine TO.stB (us := [.slice none 0 0, v6]) 0 [.slice none 0 0, v6] rfl rfl rfl ksizeB_63_2_true rfl rfl rfl (by intro u hu; simp only [List.mem_cons, List.not_mem_nil, or_false] at hu; rcases hu with rfl | rfl <;> first | exact oc11.1 | rfl) rfl ?_
  refine TO.code ?_
  refine TC.k ?_
  refine TC.region ?_
  refine TO.s rfl rfl rfl (StepS.assign rfl) ?_
  refine TO.code ?_
  refine TC.k ?_
  refine TC.region ?_
  refine TO.s rfl rfl rfl (StepS.assign rfl) ?_
  refine TO.code ?_
  refine TC.k ?_
  refine TC.region ?_
  refine TO.s rfl rfl rfl (StepS.move rfl) ?_
  obtain ⟨y12, hk13, hm⟩ := bind_some hm
  refine TO.mkSSg (ee := 3) (sz := 1) (f := cI) kelemB_50_22_1_24_true kinfo_22_bind_zero_some_slice_none_0_0 rfl rfl hk13 rfl fun v14 hs15 => ?_
  refine TO.s rfl rfl rfl (StepS.assign rfl) ?_
  refine TO.code ?_
  refine TC.k ?_
  refine TC.k ?_
  refine TC.region ?_
  refine TO.s rfl rfl rfl (StepS.move rfl) ?_
  refine TO.s rfl rfl rfl (StepS.lenm rfl e1.tl.tl.tl.tl ksliceB_23_106_4_true rfl) ?_
  refine TO.s rfl rfl rfl (StepS.move rfl) ?_
  refine TO.code ?_
  obtain ⟨o67, hw68, hm⟩ := bind_some hm
  refine TC.loop hw68 (fun (y32, y36, y39, y40, y42, x44) => fun a w => ∃ v30 : Value, ∃ v33 : Value, ∃ hs34 : List Value, ∃ v37 : Value, ∃ hs41 : List Value, ∃ hs43 : List Value, Mid 196 B [(0, I a0), (4, .pointer (some ⟨b3, 0, none⟩)), (5, .pointer (some ⟨b10, 0, none⟩)), (6, v30), (7, v33), (8, v14), (22, h1), (23, I (a1.length : Int)), (24, I x44)] (OwnS 3 1 v30 (y32.map cI) :: SS 22 3 1 cI v33 hs34 (y36) :: OwnS 28 1 v37 (y39.map cI) :: SS 22 3 1 cI v14 hs41 (y40) :: Bx b10 63 [v37, v6] :: SS 22 3 1 cI v6 hs43 (y42) :: Bx b3 63 [.slice none 0 0, .slice none 0 0] :: L) a w) (fun (y62, y63, y65) => fun a w => ∃ v60 : Value, ∃ hs64 : List Value, ∃ hs66 : List Value, Mid 196 B [(4, .pointer (some ⟨b3, 0, none⟩)), (5, .pointer (some ⟨b10, 0, none⟩))] (OwnS 28 1 v60 (y62.map cI) :: SS 22 3 1 cI v14 hs64 (y63) :: Bx b10 63 [v60, v6] :: SS 22 3 1 cI v6 hs66 (y65) :: Bx b3 63 [.slice none 0 0, .slice none 0 0] :: L) a w) (fun (_ : Unit) _ _ => False) ?_ ?_ ?_ ?_
  · rintro ⟨y32, y36, y39, y40, y42, x44⟩ o67r hb69 a w ⟨v30, v33, hs34, v37, hs41, hs43, he, hs⟩
    dsimp only [F32_L0] at hb69
    refine TC.use ?_ he hs
    refine TC.k ?_
    refine TC.region ?_
    refine TO.s rfl rfl rfl (StepS.cmp rfl rfl rfl) ?_
    refine TO.code ?_
    refine TC.k ?_
    refine TC.cond rfl (fun hc70 => ?_) (fun hc70 => ?_)
    · replace hb69 := cond_t hc70 hb69
      refine TC.skipk ?_
      refine TC.k ?_
      refine TC.block ?_
      refine TC.k ?_
      refine TC.region ?_
      obtain ⟨x71, hx72, hb69⟩ := bind_some hb69
      refine TO.s rfl rfl rfl (StepS.idx rfl rfl e1.tl.tl.tl.tl.tl.tl.tl ksliceB_23_106_4_true (idx_spec hx72).1 (idxm_lt hx72)) ?_
      refine TO.s rfl rfl rfl (StepS.ldE rfl e1.tl.tl.tl.tl.tl.tl.tl kaggB_106_4_true rfl (idxm hx72)) ?_
      refine TO.alloc kinfo_106_bind_zero_some_agg_I_0_I_0_I_0_I_0 rfl rfl fun b73 => ?_
      refine TO.stB (us := [I x71.1, I x71.2.1, I x71.2.2.1, I x71.2.2.2]) 0 [I x71.1, I x71.2.1, I x71.2.2.1, I x71.2.2.2] rfl rfl rfl ksizeB_106_4_true rfl rfl rfl (by simp [Value.oneCell']) rfl ?_
      refine TO.code ?_
      refine TC.k ?_
      refine TC.region ?_
      refine TO.s rfl rfl rfl (StepS.assign rfl) ?_
      refine TO.code ?_
      refine TC.k ?_
      refine TC.k ?_
      refine TC.region ?_
      refine TO.s rfl rfl rfl (StepS.fld rfl kfieldB_106_0_0_true) ?_
      refine TO.s rfl rfl rfl (StepS.ldB rfl (Ent.at 0 rfl) kscalB_3_true rfl) ?_
      refine TO.s rfl rfl rfl (StepS.cmp rfl rfl rfl) ?_
      refine TO.code ?_
      obtain ⟨⟨y74, y76, y79, y81, x83⟩, hj84, hb69⟩ := bind_some hb69
      first | refine TC.cutM (fun a w => ∃ v75 : Value, ∃ v77 : Value, ∃ hs78 : List Value, ∃ hs80 : List Value, ∃ hs82 : List Value, Mid 196 B [(0, I a0), (4, .pointer (some ⟨b3, 0, none⟩)), (5, .pointer (some ⟨b10, 0, none⟩)), (6, v75), (7, v77), (8, v14), (11, I x83), (22, h1), (23, I (a1.length : Int)), (24, I x44)] (Bx b73 106 [I x71.1, I x71.2.1, I x71.2.2.1, I x71.2.2.2] :: OwnS 3 1 v75 (y74.map cI) :: SS 22 3 1 cI v77 hs78 (y76) :: OwnS 28 1 v37 (y39.map cI) :: SS 22 3 1 cI v14 hs80 (y79) :: Bx b10 63 [v37, v6] :: SS 22 3 1 cI v6 hs82 (y81) :: Bx b3 63 [.slice none 0 0, .slice none 0 0] :: L) a w) ?_ ?_ | refine TC.cutX (fun a w => ∃ v75 : Value, ∃ v77 : Value, ∃ hs78 : List Value, ∃ hs80 : List Value, ∃ hs82 : List Value, Mid 196 B [(0, I a0), (4, .pointer (some ⟨b3, 0, none⟩)), (5, .pointer (some ⟨b10, 0, none⟩)), (6, v75), (7, v77), (8, v14), (11, I x83), (22, h1), (23, I (a1.length : Int)), (24, I x44)] (Bx b73 106 [I x71.1, I x71.2.1, I x71.2.2.1, I x71.2.2.2] :: OwnS 3 1 v75 (y74.map cI) :: SS 22 3 1 cI v77 hs78 (y76) :: OwnS 28 1 v37 (y39.map cI) :: SS 22 3 1 cI v14 hs80 (y79) :: Bx b10 63 [v37, v6] :: SS 22 3 1 cI v6 hs82 (y81) :: Bx b3 63 [.slice none 0 0, .slice none 0 0] :: L) a w) ?_ ?_
      · refine TC.cond rfl (fun hc85 => ?_) (fun hc85 => ?_)
        · replace hj84 := cond_t hc85 hj84
          refine TC.k ?_
          refine TC.region ?_
          refine TO.s rfl rfl rfl (StepS.fld rfl kfieldB_106_1_1_true) ?_
          refine TO.s rfl rfl rfl (StepS.ldB rfl (Ent.at 0 rfl) kscalB_3_true rfl) ?_
          refine TO.s rfl rfl rfl (StepS.cmp rfl rfl rfl) ?_
          refine TO.s rfl rfl rfl (StepS.move rfl) ?_
          refine TO.mid1 5 39 (.bool ((decide (x71.2.1 < 0)) || (decide (x71.2.1 ≥ a0)))) ?_ ?_
          · refine bcase ((decide (x71.2.1 < 0))) (fun hb86 => ?_) (fun hb86 => ?_)
            · refine TO.skip rfl rfl rfl (skipT hb86) rfl rfl ?_
              refine TO.skip rfl rfl rfl (skipT hb86) rfl rfl ?_
              refine TO.skip rfl rfl rfl (skipT hb86) rfl rfl ?_
              refine TO.skip rfl rfl rfl (skipT hb86) rfl rfl ?_
              refine TO.s rfl rfl rfl (StepS.pickT rfl hb86 rfl) ?_
              exact TO.up1 5 0 rfl rfl (by rw [hb86]; rfl) rfl
            · refine TO.sw rfl rfl rfl hb86 rfl rfl (StepS.fld rfl kfieldB_106_1_1_true) ?_
              refine TO.sw rfl rfl rfl hb86 rfl rfl (StepS.ldB rfl (Ent.at 0 rfl) kscalB_3_true rfl) ?_
              refine TO.sw rfl rfl rfl hb86 rfl rfl (StepS.move rfl) ?_
              refine TO.sw rfl rfl rfl hb86 rfl rfl (StepS.cmp rfl rfl rfl) ?_
              refine TO.s rfl rfl rfl (StepS.pickF rfl hb86 rfl) ?_
              exact TO.up1 5 0 rfl rfl (by rw [hb86]; rfl) rfl
          refine TO.code ?_
          refine TC.cond rfl (fun hc87 => ?_) (fun hc87 => ?_)
          · replace hj84 := cond_t hc87 hj84
            refine TC.region ?_
            refine TO.s rfl rfl rfl (StepS.assign rfl) ?_
            cases hj84
            refine TO.nil fun a w e s => ?_
            exact ⟨v30, v33, hs34, hs41, hs43, e.sub (lk_of_allIn ⟨rfl, rfl, rfl, rfl, rfl, rfl, rfl, rfl, rfl, rfl, trivial⟩), s⟩
          · replace hj84 := cond_f hc87 hj84
            refine TC.k ?_
            refine TC.region ?_
            refine TO.s rfl rfl rfl (StepS.move rfl) ?_
            refine TO.lit0 (f := cI) ksliceB_22_3_1_true rfl fun v88 => ?_
            refine TO.s rfl rfl rfl (StepS.fld rfl kfieldB_63_1_1_true) ?_
            refine TO.s rfl rfl rfl (StepS.ldB rfl (Ent.at 6 rfl) kscalB_50_true rfl) ?_
            refine TO.s rfl rfl rfl (StepS.fld rfl kfieldB_106_1_1_true) ?_
            refine TO.s rfl rfl rfl (StepS.ldB rfl (Ent.at 1 rfl) kscalB_3_true rfl) ?_
            obtain ⟨x90, hx91, hj84⟩ := bind_some hj84
            refine TO.s rfl rfl rfl (StepS.idxRR rfl rfl (SS.rr (Ent.at 7 rfl)) ksliceB_50_22_1_true hx91) ?_
            refine TO.s rfl rfl rfl (StepS.ldRR rfl (SS.rr (Ent.at 7 rfl)) kscalB_22_true hx91) ?_
            obtain ⟨y93, hk94, hj84⟩ := bind_some hj84
            refine TO.app (k := 0) (f := cI) kelemB_22_3_1_8_true (by decide) rfl rfl rfl (RR.row (SS.rr (Ent.at 7 rfl)) hx91) hk94 (fun x c hc => by simp [Value.oneCell'] at hc ⊢; first | (obtain rfl := hc; rfl) | (rcases hc with rfl <;> rfl)) rfl rfl fun v95 => ?_
            refine TO.lit1H rfl (OwnS.rd (Ent.at 0 rfl)) kelemB_50_22_1_24_true rfl fun v96 => ?_
            refine TO.ghost (fun _ s => Sat.front 4 rfl s) ?_
            refine TO.ghost (fun _ s => Sat.front 2 rfl s) ?_
            obtain ⟨y99, hk100, hj84⟩ := bind_some hj84
            refine TO.appSS (row := y93) rfl kelemB_50_22_1_24_true rfl rfl (OwnS.rd (Ent.at 0 rfl)) hk100 rfl rfl fun v101 hs102 => ?_
            refine TO.s rfl rfl rfl (StepS.assign rfl) ?_
            refine TO.code ?_
            refine TC.k ?_
            obtain ⟨y104, hj106, hj84⟩ := bind_some hj84
            first | refine TC.cutM (fun a w => ∃ hs105 : List Value, Mid 196 B [(0, I a0), (4, .pointer (some ⟨b3, 0, none⟩)), (5, .pointer (some ⟨b10, 0, none⟩)), (6, v30), (7, v101), (8, v14), (10, .pointer (some ⟨b73, 0, none⟩)), (11, I 0), (22, h1), (23, I (a1.length : Int)), (24, I x44)] (SS 22 3 1 cI v101 hs102 (y99) :: OwnS 22 1 v96 ([()].map (fun (_ : Unit) => [v95])) :: Bx b73 106 [I x71.1, I x71.2.1, I x71.2.2.1, I x71.2.2.2] :: OwnS 3 1 v30 (y32.map cI) :: OwnS 28 1 v37 (y39.map cI) :: SS 22 3 1 cI v14 hs41 (y40) :: Bx b10 63 [v37, v6] :: SS 22 3 1 cI v6 hs105 (y104) :: Bx b3 63 [.slice none 0 0, .slice none 0 0] :: L) a w) ?_ ?_ | refine TC.cutX (fun a w => ∃ hs105 : List Value, Mid 196 B [(0, I a0), (4, .pointer (some ⟨b3, 0, none⟩)), (5, .pointer (some ⟨b10, 0, none⟩)), (6, v30), (7, v101), (8, v14), (10, .pointer (some ⟨b73, 0, none⟩)), (11, I 0), (22, h1), (23, I (a1.length : Int)), (24, I x44)] (SS 22 3 1 cI v101 hs102 (y99) :: OwnS 22 1 v96 ([()].map (fun (_ : Unit) => [v95])) :: Bx b73 106 [I x71.1, I x71.2.1, I x71.2.2.1, I x71.2.2.2] :: OwnS 3 1 v30 (y32.map cI) :: OwnS 28 1 v37 (y39.map cI) :: SS 22 3 1 cI v14 hs41 (y40) :: Bx b10 63 [v37, v6] :: SS 22 3 1 cI v6 hs105 (y104) :: Bx b3 63 [.slice none 0 0, .slice none 0 0] :: L) a w) ?_ ?_
            · obtain ⟨xq103_8_1, hxq103_8_2, hj106⟩ := bind_some hj106
              obtain ⟨yq103_13_2, hkq103_13_3, hj106⟩ := bind_some hj106
              obtain ⟨xq103_14_1, hxq103_14_2, hj106⟩ := bind_some hj106
              refine TC.region_any (SS 22 3 1 cI v101 hs102 (y99) :: OwnS 22 1 v96 ([()].map (fun (_ : Unit) => [v95])) :: Bx b73 106 [I x71.1, I x71.2.1, I x71.2.2.1, I x71.2.2.2] :: OwnS 3 1 v30 (y32.map cI) :: OwnS 28 1 v37 (y39.map cI) :: SS 22 3 1 cI v14 hs41 (y40) :: Bx b10 63 [v37, v6] :: Bx b3 63 [.slice none 0 0, .slice none 0 0] :: L) 15 16 kfollows_mixedOrders_true rfl ?_
              refine TA.takeW 0 rfl rfl rfl rfl (StepS.fld rfl kfieldB_63_1_1_true) (by kernel_rfl) (by kernel_rfl) (by kernel_rfl) rfl (.inr (fun _ s => Sat.by [8, 7, 7, 7, 7, 7, 7, 7] 8 1 (by kernel_rfl) s)) ?_
              refine TA.take 1 rfl rfl rfl rfl (StepS.ldB rfl (Ent.at 6 rfl) kscalB_50_true rfl) (by kernel_rfl) (by kernel_rfl) (by kernel_rfl) (by kernel_rfl) (by kernel_rfl) (fun _ s => Sat.by [8, 7, 7, 7, 7, 7, 7, 7] 8 1 (by kernel_rfl) s) ?_
              refine TA.takeW 2 rfl rfl rfl rfl (StepS.fld rfl kfieldB_106_1_1_true) (by kernel_rfl) (by kernel_rfl) (by kernel_rfl) rfl (.inr (fun _ s => Sat.by [8, 7, 7, 7, 7, 7, 7, 7] 8 1 (by kernel_rfl) s)) ?_
              refine TA.take 3 rfl rfl rfl rfl (StepS.ldB rfl (Ent.at 2 rfl) kscalB_3_true rfl) (by kernel_rfl) (by kernel_rfl) (by kernel_rfl) (by kernel_rfl) (by kernel_rfl) (fun _ s => Sat.by [8, 7, 7, 7, 7, 7, 7, 7] 8 1 (by kernel_rfl) s) ?_
              refine TA.takeW 4 rfl rfl rfl rfl (StepS.fld rfl kfieldB_63_1_1_true) (by kernel_rfl) (by kernel_rfl) (by kernel_rfl) rfl (.inr (fun _ s => Sat.by [8, 7, 7, 7, 7, 7, 7, 7] 8 1 (by kernel_rfl) s)) ?_
              refine TA.take 5 rfl rfl rfl rfl (StepS.ldB rfl (Ent.at 6 rfl) kscalB_50_true rfl) (by kernel_rfl) (by kernel_rfl) (by kernel_rfl) (by kernel_rfl) (by kernel_rfl) (fun _ s => Sat.by [8, 7, 7, 7, 7, 7, 7, 7] 8 1 (by kernel_rfl) s) ?_
              refine TA.takeW 6 rfl rfl rfl rfl (StepS.fld rfl kfieldB_106_1_1_true) (by kernel_rfl) (by kernel_rfl) (by kernel_rfl) rfl (.inr (fun _ s => Sat.by [8, 7, 7, 7, 7, 7, 7, 7] 8 1 (by kernel_rfl) s)) ?_
              refine TA.take 7 rfl rfl rfl rfl (StepS.ldB rfl (Ent.at 2 rfl) kscalB_3_true rfl) (by kernel_rfl) (by kernel_rfl) (by kernel_rfl) (by kernel_rfl) (by kernel_rfl) (fun _ s => Sat.by [8, 7, 7, 7, 7, 7, 7, 7] 8 1 (by kernel_rfl) s) ?_
              refine TA.takeW 10 rfl rfl rfl rfl (StepS.move rfl) (by kernel_rfl) (by kernel_rfl) (by kernel_rfl) rfl (.inr (fun _ s => Sat.by [8, 7, 7, 7, 7, 7, 7, 7] 8 1 (by kernel_rfl) s)) ?_
              refine TA.take 11 rfl rfl rfl rfl (StepS.lenm rfl (OwnS.rd (Ent.at 3 rfl)) ksliceB_22_3_1_true rfl) (by kernel_rfl) (by kernel_rfl) (by kernel_rfl) (by kernel_rfl) (by kernel_rfl) (fun _ s => Sat.by [8, 7, 7, 7, 7, 7, 7, 7] 8 1 (by kernel_rfl) s) ?_
              refine TA.all2 (i := 8) (j := 12) (by kernel_rfl) ?_ ?_
              · refine TB.of rfl ?_
                refine TO.s rfl rfl rfl (StepS.idxRR rfl rfl (SS.rr (Ent.at 7 rfl)) ksliceB_50_22_1_true hxq103_8_2) ?_
                refine TA.back (.inr (fun _ s => Sat.by [8, 7, 7, 7, 7, 7, 7, 7] 8 1 (by kernel_rfl) s)) ?_
                refine TA.asL (L' := (SS 22 3 1 cI v101 hs102 (y99) :: OwnS 22 1 v96 ([()].map (fun (_ : Unit) => [v95])) :: Bx b73 106 [I x71.1, I x71.2.1, I x71.2.2.1, I x71.2.2.2] :: OwnS 3 1 v30 (y32.map cI) :: OwnS 28 1 v37 (y39.map cI) :: SS 22 3 1 cI v14 hs41 (y40) :: Bx b10 63 [v37, v6] :: SS 22 3 1 cI v6 hs43 (y42) :: Bx b3 63 [.slice none 0 0, .slice none 0 0] :: L)) (listed' := #[true, true, true, true, true, true, true, true, true, false, true, true, false, false, false, false]) (by kernel_rfl) (by kernel_rfl) ?_
                refine TA.all2 (i := 9) (j := 12) (by kernel_rfl) ?_ ?_
                · refine TB.of rfl ?_
                  refine TO.s rfl rfl rfl (StepS.ldRR rfl (SS.rr (Ent.at 7 rfl)) kscalB_22_true hxq103_8_2) ?_
                  refine TA.back (.inr (fun _ s => Sat.by [8, 7, 7, 7, 7, 7, 7, 7] 8 1 (by kernel_rfl) s)) ?_
                  refine TA.asL (L' := (SS 22 3 1 cI v101 hs102 (y99) :: OwnS 22 1 v96 ([()].map (fun (_ : Unit) => [v95])) :: Bx b73 106 [I x71.1, I x71.2.1, I x71.2.2.1, I x71.2.2.2] :: OwnS 3 1 v30 (y32.map cI) :: OwnS 28 1 v37 (y39.map cI) :: SS 22 3 1 cI v14 hs41 (y40) :: Bx b10 63 [v37, v6] :: SS 22 3 1 cI v6 hs43 (y42) :: Bx b3 63 [.slice none 0 0, .slice none 0 0] :: L)) (listed' := #[true, true, true, true, true, true, true, true, true, true, true, true, false, false, false, false]) (by kernel_rfl) (by kernel_rfl) ?_
                  refine TA.all1 (i := 12) (by kernel_rfl) ?_
                  refine TB.of rfl ?_
                  refine TO.litS (f := cI) ([(y32.length : Int)] : List Int) kelemB_22_3_1_8_true kinfo_3_bind_zero_some_I_0 rfl rfl (fun _ => rfl) rfl rfl (by kernel_rfl) rfl fun vq103_12_1 => ?_
                  refine TA.back (.inr (fun _ s => Sat.by [9, 8, 8, 8, 8, 8, 8, 8] 8 2 (by kernel_rfl) s)) ?_
                  refine TA.asL (L' := (OwnS 3 1 vq103_12_1 (([(y32.length : Int)] : List Int).map cI) :: SS 22 3 1 cI v101 hs102 (y99) :: OwnS 22 1 v96 ([()].map (fun (_ : Unit) => [v95])) :: Bx b73 106 [I x71.1, I x71.2.1, I x71.2.2.1, I x71.2.2.2] :: OwnS 3 1 v30 (y32.map cI) :: OwnS 28 1 v37 (y39.map cI) :: SS 22 3 1 cI v14 hs41 (y40) :: Bx b10 63 [v37, v6] :: SS 22 3 1 cI v6 hs43 (y42) :: Bx b3 63 [.slice none 0 0, .slice none 0 0] :: L)) (listed' := #[true, true, true, true, true, true, true, true, true, true, true, true, true, false, false, false]) (by kernel_rfl) (by kernel_rfl) ?_
                  refine TA.all1 (i := 13) (by kernel_rfl) ?_
                  refine TB.of rfl ?_
                  refine TO.ghost (fun _ s => Sat.front 8 rfl s) ?_
                  refine TO.ghost (fun _ s => Sat.openRow hxq103_8_2 s) ?_
                  refine TO.app (k := 0) (f := cI) kelemB_22_3_1_8_true (by decide) rfl rfl rfl (OwnS.rd (Ent.at 2 rfl)) hkq103_13_3 (fun x c hc => by simp [Value.oneCell'] at hc ⊢; first | (obtain rfl := hc; rfl) | (rcases hc with rfl <;> rfl)) rfl rfl fun vq103_13_4 => ?_
                  refine TA.back (.inr (fun _ s => Sat.by [10, 10, 10, 10, 10, 10, 10, 10] 8 3 (by kernel_rfl) s)) ?_
                  refine TA.asL (L' := (OwnS 3 1 vq103_13_4 (yq103_13_2.map cI) :: SSh 22 3 1 cI v6 hs43 (y42) x71.2.1.toNat :: OwnS 3 1 vq103_12_1 (([(y32.length : Int)] : List Int).map cI) :: SS 22 3 1 cI v101 hs102 (y99) :: OwnS 22 1 v96 ([()].map (fun (_ : Unit) => [v95])) :: Bx b73 106 [I x71.1, I x71.2.1, I x71.2.2.1, I x71.2.2.2] :: OwnS 3 1 v30 (y32.map cI) :: OwnS 28 1 v37 (y39.map cI) :: SS 22 3 1 cI v14 hs41 (y40) :: Bx b10 63 [v37, v6] :: Bx b3 63 [.slice none 0 0, .slice none 0 0] :: L)) (listed' := #[true, true, true, true, true, true, true, true, true, true, true, true, true, true, false, false]) (by kernel_rfl) (by kernel_rfl) ?_
                  refine TA.all1 (i := 14) (by kernel_rfl) ?_
                  refine TB.of rfl ?_
                  refine TO.s rfl rfl rfl (StepS.idxRH rfl rfl (Ent.at 1 rfl) ksliceB_50_22_1_true hxq103_14_2) ?_
                  refine TA.back (.inr (fun _ s => Sat.by [10, 10, 10, 10, 10, 10, 10, 10] 8 3 (by kernel_rfl) s)) ?_
                  refine TA.asL (L' := (OwnS 3 1 vq103_13_4 (yq103_13_2.map cI) :: SSh 22 3 1 cI v6 hs43 (y42) x71.2.1.toNat :: OwnS 3 1 vq103_12_1 (([(y32.length : Int)] : List Int).map cI) :: SS 22 3 1 cI v101 hs102 (y99) :: OwnS 22 1 v96 ([()].map (fun (_ : Unit) => [v95])) :: Bx b73 106 [I x71.1, I x71.2.1, I x71.2.2.1, I x71.2.2.2] :: OwnS 3 1 v30 (y32.map cI) :: OwnS 28 1 v37 (y39.map cI) :: SS 22 3 1 cI v14 hs41 (y40) :: Bx b10 63 [v37, v6] :: Bx b3 63 [.slice none 0 0, .slice none 0 0] :: L)) (listed' := #[true, true, true, true, true, true, true, true, true, true, true, true, true, true, true, false]) (by kernel_rfl) (by kernel_rfl) ?_
                  refine TA.all1 (i := 15) (by kernel_rfl) ?_
                  refine TB.of rfl ?_
                  refine TO.ghost (fun _ s => Sat.front 1 rfl s) ?_
                  refine TO.stRowH (xs := yq103_13_2) rfl rfl hxq103_14_2 ksizeB_22_1_true ?_
                  refine TA.back (.inl (by kernel_rfl)) ?_
                  refine TA.asL (L' := (SS 22 3 1 cI v6 (hs43.set x71.2.1.toNat vq103_13_4) (y42.set x71.2.1.toNat yq103_13_2) :: OwnS 3 1 vq103_12_1 (([(y32.length : Int)] : List Int).map cI) :: SS 22 3 1 cI v101 hs102 (y99) :: OwnS 22 1 v96 ([()].map (fun (_ : Unit) => [v95])) :: Bx b73 106 [I x71.1, I x71.2.1, I x71.2.2.1, I x71.2.2.2] :: OwnS 3 1 v30 (y32.map cI) :: OwnS 28 1 v37 (y39.map cI) :: SS 22 3 1 cI v14 hs41 (y40) :: Bx b10 63 [v37, v6] :: Bx b3 63 [.slice none 0 0, .slice none 0 0] :: L)) (listed' := #[true, true, true, true, true, true, true, true, true, true, true, true, true, true, true, true]) (by kernel_rfl) (by kernel_rfl) ?_
                  cases hj106
                  refine TA.nil (by kernel_rfl) fun a w e s => ?_
                  exact ⟨(hs43.set x71.2.1.toNat vq103_13_4), e.sub (lk_of_allIn ⟨rfl, rfl, rfl, rfl, rfl, rfl, rfl, rfl, rfl, rfl, rfl, trivial⟩), s.mono fun _ s => (by exact Sat.by [9, 1, 9, 9, 9, 9, 9, 9, 9] 9 1 (by kernel_rfl) s)⟩
                · refine TB.of rfl ?_
                  refine TO.litS (f := cI) ([(y32.length : Int)] : List Int) kelemB_22_3_1_8_true kinfo_3_bind_zero_some_I_0 rfl rfl (fun _ => rfl) rfl rfl (by kernel_rfl) rfl fun vq103_12_1 => ?_
                  refine TA.back (.inr (fun _ s => Sat.by [9, 8, 8, 8, 8, 8, 8, 8] 8 2 (by kernel_rfl) s)) ?_
                  refine TA.asL (L' := (OwnS 3 1 vq103_12_1 (([(y32.length : Int)] : List Int).map cI) :: SS 22 3 1 cI v101 hs102 (y99) :: OwnS 22 1 v96 ([()].map (fun (_ : Unit) => [v95])) :: Bx b73 106 [I x71.1, I x71.2.1, I x71.2.2.1, I x71.2.2.2] :: OwnS 3 1 v30 (y32.map cI) :: OwnS 28 1 v37 (y39.map cI) :: SS 22 3 1 cI v14 hs41 (y40) :: Bx b10 63 [v37, v6] :: SS 22 3 1 cI v6 hs43 (y42) :: Bx b3 63 [.slice none 0 0, .slice none 0 0] :: L)) (listed' := #[true, true, true, true, true, true, true, true, true, false, true, true, true, false, false, false]) (by kernel_rfl) (by kernel_rfl) ?_
                  refine TA.all1 (i := 9) (by kernel_rfl) ?_
                  refine TB.of rfl ?_
                  refine TO.s rfl rfl rfl (StepS.ldRR rfl (SS.rr (Ent.at 8 rfl)) kscalB_22_true hxq103_8_2) ?_
                  refine TA.back (.inr (fun _ s => Sat.by [9, 8, 8, 8, 8, 8, 8, 8] 8 2 (by kernel_rfl) s)) ?_
                  refine TA.asL (L' := (OwnS 3 1 vq103_12_1 (([(y32.length : Int)] : List Int).map cI) :: SS 22 3 1 cI v101 hs102 (y99) :: OwnS 22 1 v96 ([()].map (fun (_ : Unit) => [v95])) :: Bx b73 106 [I x71.1, I x71.2.1, I x71.2.2.1, I x71.2.2.2] :: OwnS 3 1 v30 (y32.map cI) :: OwnS 28 1 v37 (y39.map cI) :: SS 22 3 1 cI v14 hs41 (y40) :: Bx b10 63 [v37, v6] :: SS 22 3 1 cI v6 hs43 (y42) :: Bx b3 63 [.slice none 0 0, .slice none 0 0] :: L)) (listed' := #[true, true, true, true, true, true, true, true, true, true, true, true, true, false, false, false]) (by kernel_rfl) (by kernel_rfl) ?_
                  refine TA.all1 (i := 13) (by kernel_rfl) ?_
                  refine TB.of rfl ?_
                  refine TO.ghost (fun _ s => Sat.front 8 rfl s) ?_
                  refine TO.ghost (fun _ s => Sat.openRow hxq103_8_2 s) ?_
                  refine TO.app (k := 0) (f := cI) kelemB_22_3_1_8_true (by decide) rfl rfl rfl (OwnS.rd (Ent.at 2 rfl)) hkq103_13_3 (fun x c hc => by simp [Value.oneCell'] at hc ⊢; first | (obtain rfl := hc; rfl) | (rcases hc with rfl <;> rfl)) rfl rfl fun vq103_13_4 => ?_
                  refine TA.back (.inr (fun _ s => Sat.by [10, 10, 10, 10, 10, 10, 10, 10] 8 3 (by kernel_rfl) s)) ?_
                  refine TA.asL (L' := (OwnS 3 1 vq103_13_4 (yq103_13_2.map cI) :: SSh 22 3 1 cI v6 hs43 (y42) x71.2.1.toNat :: OwnS 3 1 vq103_12_1 (([(y32.length : Int)] : List Int).map cI) :: SS 22 3 1 cI v101 hs102 (y99) :: OwnS 22 1 v96 ([()].map (fun (_ : Unit) => [v95])) :: Bx b73 106 [I x71.1, I x71.2.1, I x71.2.2.1, I x71.2.2.2] :: OwnS 3 1 v30 (y32.map cI) :: OwnS 28 1 v37 (y39.map cI) :: SS 22 3 1 cI v14 hs41 (y40) :: Bx b10 63 [v37, v6] :: Bx b3 63 [.slice none 0 0, .slice none 0 0] :: L)) (listed' := #[true, true, true, true, true, true, true, true, true, true, true, true, true, true, false, false]) (by kernel_rfl) (by kernel_rfl) ?_
                  refine TA.all1 (i := 14) (by kernel_rfl) ?_
                  refine TB.of rfl ?_
                  refine TO.s rfl rfl rfl (StepS.idxRH rfl rfl (Ent.at 1 rfl) ksliceB_50_22_1_true hxq103_14_2) ?_
                  refine TA.back (.inr (fun _ s => Sat.by [10, 10, 10, 10, 10, 10, 10, 10] 8 3 (by kernel_rfl) s)) ?_
                  refine TA.asL (L' := (OwnS 3 1 vq103_13_4 (yq103_13_2.map cI) :: SSh 22 3 1 cI v6 hs43 (y42) x71.2.1.toNat :: OwnS 3 1 vq103_12_1 (([(y32.length : Int)] : List Int).map cI) :: SS 22 3 1 cI v101 hs102 (y99) :: OwnS 22 1 v96 ([()].map (fun (_ : Unit) => [v95])) :: Bx b73 106 [I x71.1, I x71.2.1, I x71.2.2.1, I x71.2.2.2] :: OwnS 3 1 v30 (y32.map cI) :: OwnS 28 1 v37 (y39.map cI) :: SS 22 3 1 cI v14 hs41 (y40) :: Bx b10 63 [v37, v6] :: Bx b3 63 [.slice none 0 0, .slice none 0 0] :: L)) (listed' := #[true, true, true, true, true, true, true, true, true, true, true, true, true, true, true, false]) (by kernel_rfl) (by kernel_rfl) ?_
                  refine TA.all1 (i := 15) (by kernel_rfl) ?_
                  refine TB.of rfl ?_
                  refine TO.ghost (fun _ s => Sat.front 1 rfl s) ?_
                  refine TO.stRowH (xs := yq103_13_2) rfl rfl hxq103_14_2 ksizeB_22_1_true ?_
                  refine TA.back (.inl (by kernel_rfl)) ?_
                  refine TA.asL (L' := (SS 22 3 1 cI v6 (hs43.set x71.2.1.toNat vq103_13_4) (y42.set x71.2.1.toNat yq103_13_2) :: OwnS 3 1 vq103_12_1 (([(y32.length : Int)] : List Int).map cI) :: SS 22 3 1 cI v101 hs102 (y99) :: OwnS 22 1 v96 ([()].map (fun (_ : Unit) => [v95])) :: Bx b73 106 [I x71.1, I x71.2.1, I x71.2.2.1, I x71.2.2.2] :: OwnS 3 1 v30 (y32.map cI) :: OwnS 28 1 v37 (y39.map cI) :: SS 22 3 1 cI v14 hs41 (y40) :: Bx b10 63 [v37, v6] :: Bx b3 63 [.slice none 0 0, .slice none 0 0] :: L)) (listed' := #[true, true, true, true, true, true, true, true, true, true, true, true, true, true, true, true]) (by kernel_rfl) (by kernel_rfl) ?_
                  cases hj106
                  refine TA.nil (by kernel_rfl) fun a w e s => ?_
                  exact ⟨(hs43.set x71.2.1.toNat vq103_13_4), e.sub (lk_of_allIn ⟨rfl, rfl, rfl, rfl, rfl, rfl, rfl, rfl, rfl, rfl, rfl, trivial⟩), s.mono fun _ s => (by exact Sat.by [9, 1, 9, 9, 9, 9, 9, 9, 9] 9 1 (by kernel_rfl) s)⟩
              · refine TB.of rfl ?_
                refine TO.litS (f := cI) ([(y32.length : Int)] : List Int) kelemB_22_3_1_8_true kinfo_3_bind_zero_some_I_0 rfl rfl (fun _ => rfl) rfl rfl (by kernel_rfl) rfl fun vq103_12_1 => ?_
                refine TA.back (.inr (fun _ s => Sat.by [9, 8, 8, 8, 8, 8, 8, 8] 8 2 (by kernel_rfl) s)) ?_
                refine TA.asL (L' := (OwnS 3 1 vq103_12_1 (([(y32.length : Int)] : List Int).map cI) :: SS 22 3 1 cI v101 hs102 (y99) :: OwnS 22 1 v96 ([()].map (fun (_ : Unit) => [v95])) :: Bx b73 106 [I x71.1, I x71.2.1, I x71.2.2.1, I x71.2.2.2] :: OwnS 3 1 v30 (y32.map cI) :: OwnS 28 1 v37 (y39.map cI) :: SS 22 3 1 cI v14 hs41 (y40) :: Bx b10 63 [v37, v6] :: SS 22 3 1 cI v6 hs43 (y42) :: Bx b3 63 [.slice none 0 0, .slice none 0 0] :: L)) (listed' := #[true, true, true, true, true, true, true, true, false, false, true, true, true, false, false, false]) (by kernel_rfl) (by kernel_rfl) ?_
                refine TA.all1 (i := 8) (by kernel_rfl) ?_
                refine TB.of rfl ?_
                refine TO.s rfl rfl rfl (StepS.idxRR rfl rfl (SS.rr (Ent.at 8 rfl)) ksliceB_50_22_1_true hxq103_8_2) ?_
                refine TA.back (.inr (fun _ s => Sat.by [9, 8, 8, 8, 8, 8, 8, 8] 8 2 (by kernel_rfl) s)) ?_
                refine TA.asL (L' := (OwnS 3 1 vq103_12_1 (([(y32.length : Int)] : List Int).map cI) :: SS 22 3 1 cI v101 hs102 (y99) :: OwnS 22 1 v96 ([()].map (fun (_ : Unit) => [v95])) :: Bx b73 106 [I x71.1, I x71.2.1, I x71.2.2.1, I x71.2.2.2] :: OwnS 3 1 v30 (y32.map cI) :: OwnS 28 1 v37 (y39.map cI) :: SS 22 3 1 cI v14 hs41 (y40) :: Bx b10 63 [v37, v6] :: SS 22 3 1 cI v6 hs43 (y42) :: Bx b3 63 [.slice none 0 0, .slice none 0 0] :: L)) (listed' := #[true, true, true, true, true, true, true, true, true, false, true, true, true, false, false, false]) (by kernel_rfl) (by kernel_rfl) ?_
                refine TA.all1 (i := 9) (by kernel_rfl) ?_
                refine TB.of rfl ?_
                refine TO.s rfl rfl rfl (StepS.ldRR rfl (SS.rr (Ent.at 8 rfl)) kscalB_22_true hxq103_8_2) ?_
                refine TA.back (.inr (fun _ s => Sat.by [9, 8, 8, 8, 8, 8, 8, 8] 8 2 (by kernel_rfl) s)) ?_
                refine TA.asL (L' := (OwnS 3 1 vq103_12_1 (([(y32.length : Int)] : List Int).map cI) :: SS 22 3 1 cI v101 hs102 (y99) :: OwnS 22 1 v96 ([()].map (fun (_ : Unit) => [v95])) :: Bx b73 106 [I x71.1, I x71.2.1, I x71.2.2.1, I x71.2.2.2] :: OwnS 3 1 v30 (y32.map cI) :: OwnS 28 1 v37 (y39.map cI) :: SS 22 3 1 cI v14 hs41 (y40) :: Bx b10 63 [v37, v6] :: SS 22 3 1 cI v6 hs43 (y42) :: Bx b3 63 [.slice none 0 0, .slice none 0 0] :: L)) (listed' := #[true, true, true, true, true, true, true, true, true, true, true, true, true, false, false, false]) (by kernel_rfl) (by kernel_rfl) ?_
                refine TA.all1 (i := 13) (by kernel_rfl) ?_
                refine TB.of rfl ?_
                refine TO.ghost (fun _ s => Sat.front 8 rfl s) ?_
                refine TO.ghost (fun _ s => Sat.openRow hxq103_8_2 s) ?_
                refine TO.app (k := 0) (f := cI) kelemB_22_3_1_8_true (by decide) rfl rfl rfl (OwnS.rd (Ent.at 2 rfl)) hkq103_13_3 (fun x c hc => by simp [Value.oneCell'] at hc ⊢; first | (obtain rfl := hc; rfl) | (rcases hc with rfl <;> rfl)) rfl rfl fun vq103_13_4 => ?_
                refine TA.back (.inr (fun _ s => Sat.by [10, 10, 10, 10, 10, 10, 10, 10] 8 3 (by kernel_rfl) s)) ?_
                refine TA.asL (L' := (OwnS 3 1 vq103_13_4 (yq103_13_2.map cI) :: SSh 22 3 1 cI v6 hs43 (y42) x71.2.1.toNat :: OwnS 3 1 vq103_12_1 (([(y32.length : Int)] : List Int).map cI) :: SS 22 3 1 cI v101 hs102 (y99) :: OwnS 22 1 v96 ([()].map (fun (_ : Unit) => [v95])) :: Bx b73 106 [I x71.1, I x71.2.1, I x71.2.2.1, I x71.2.2.2] :: OwnS 3 1 v30 (y32.map cI) :: OwnS 28 1 v37 (y39.map cI) :: SS 22 3 1 cI v14 hs41 (y40) :: Bx b10 63 [v37, v6] :: Bx b3 63 [.slice none 0 0, .slice none 0 0] :: L)) (listed' := #[true, true, true, true, true, true, true, true, true, true, true, true, true, true, false, false]) (by kernel_rfl) (by kernel_rfl) ?_
                refine TA.all1 (i := 14) (by kernel_rfl) ?_
                refine TB.of rfl ?_
                refine TO.s rfl rfl rfl (StepS.idxRH rfl rfl (Ent.at 1 rfl) ksliceB_50_22_1_true hxq103_14_2) ?_
                refine TA.back (.inr (fun _ s => Sat.by [10, 10, 10, 10, 10, 10, 10, 10] 8 3 (by kernel_rfl) s)) ?_
                refine TA.asL (L' := (OwnS 3 1 vq103_13_4 (yq103_13_2.map cI) :: SSh 22 3 1 cI v6 hs43 (y42) x71.2.1.toNat :: OwnS 3 1 vq103_12_1 (([(y32.length : Int)] : List Int).map cI) :: SS 22 3 1 cI v101 hs102 (y99) :: OwnS 22 1 v96 ([()].map (fun (_ : Unit) => [v95])) :: Bx b73 106 [I x71.1, I x71.2.1, I x71.2.2.1, I x71.2.2.2] :: OwnS 3 1 v30 (y32.map cI) :: OwnS 28 1 v37 (y39.map cI) :: SS 22 3 1 cI v14 hs41 (y40) :: Bx b10 63 [v37, v6] :: Bx b3 63 [.slice none 0 0, .slice none 0 0] :: L)) (listed' := #[true, true, true, true, true, true, true, true, true, true, true, true, true, true, true, false]) (by kernel_rfl) (by kernel_rfl) ?_
                refine TA.all1 (i := 15) (by kernel_rfl) ?_
                refine TB.of rfl ?_
                refine TO.ghost (fun _ s => Sat.front 1 rfl s) ?_
                refine TO.stRowH (xs := yq103_13_2) rfl rfl hxq103_14_2 ksizeB_22_1_true ?_
                refine TA.back (.inl (by kernel_rfl)) ?_
                refine TA.asL (L' := (SS 22 3 1 cI v6 (hs43.set x71.2.1.toNat vq103_13_4) (y42.set x71.2.1.toNat yq103_13_2) :: OwnS 3 1 vq103_12_1 (([(y32.length : Int)] : List Int).map cI) :: SS 22 3 1 cI v101 hs102 (y99) :: OwnS 22 1 v96 ([()].map (fun (_ : Unit) => [v95])) :: Bx b73 106 [I x71.1, I x71.2.1, I x71.2.2.1, I x71.2.2.2] :: OwnS 3 1 v30 (y32.map cI) :: OwnS 28 1 v37 (y39.map cI) :: SS 22 3 1 cI v14 hs41 (y40) :: Bx b10 63 [v37, v6] :: Bx b3 63 [.slice none 0 0, .slice none 0 0] :: L)) (listed' := #[true, true, true, true, true, true, true, true, true, true, true, true, true, true, true, true]) (by kernel_rfl) (by kernel_rfl) ?_
                cases hj106
                refine TA.nil (by kernel_rfl) fun a w e s => ?_
                exact ⟨(hs43.set x71.2.1.toNat vq103_13_4), e.sub (lk_of_allIn ⟨rfl, rfl, rfl, rfl, rfl, rfl, rfl, rfl, rfl, rfl, rfl, trivial⟩), s.mono fun _ s => (by exact Sat.by [9, 1, 9, 9, 9, 9, 9, 9, 9] 9 1 (by kernel_rfl) s)⟩
            · intro a w ⟨hs105, he, hs⟩
              refine TC.use ?_ he hs
              refine TC.region ?_
              refine TO.s rfl rfl rfl (StepS.move rfl) ?_
              refine TO.s rfl rfl rfl (StepS.fld rfl kfieldB_106_1_1_true) ?_
              refine TO.s rfl rfl rfl (StepS.ldB rfl (Ent.at 2 rfl) kscalB_3_true rfl) ?_
              refine TO.litS (f := cI) ([x71.2.1] : List Int) kelemB_22_3_1_8_true kinfo_3_bind_zero_some_I_0 rfl rfl (fun _ => rfl) rfl rfl (by kernel_rfl) rfl fun v107 => ?_
              obtain ⟨y109, hk110, hj84⟩ := bind_some hj84
              refine TO.app (k := 4) (f := cI) kelemB_22_3_1_8_true (by decide) rfl rfl rfl (OwnS.rd (Ent.at 0 rfl)) hk110 (fun x c hc => by simp [Value.oneCell'] at hc ⊢; first | (obtain rfl := hc; rfl) | (rcases hc with rfl <;> rfl)) rfl rfl fun v111 => ?_
              refine TO.s rfl rfl rfl (StepS.assign rfl) ?_
              cases hj84
              refine TO.nil fun a w e s => ?_
              exact ⟨v111, v101, hs102, hs41, hs105, e.sub (lk_of_allIn ⟨rfl, rfl, rfl, rfl, rfl, rfl, rfl, rfl, rfl, rfl, trivial⟩), s.mono fun _ s => (by exact Sat.by [9, 9, 9, 9, 9, 6, 9, 9] 8 2 (by kernel_rfl) s)⟩
        · replace hj84 := cond_f hc85 hj84
          refine TC.k ?_
          refine TC.region ?_
          refine TO.s rfl rfl rfl (StepS.fld rfl kfieldB_106_0_0_true) ?_
          refine TO.s rfl rfl rfl (StepS.ldB rfl (Ent.at 0 rfl) kscalB_3_true rfl) ?_
          refine TO.s rfl rfl rfl (StepS.cmp rfl rfl rfl) ?_
          refine TO.code ?_
          refine TC.cond rfl (fun hc112 => ?_) (fun hc112 => ?_)
          · replace hj84 := cond_t hc112 hj84
            refine TC.region ?_
            refine TO.s rfl rfl rfl (StepS.assign rfl) ?_
            cases hj84
            refine TO.nil fun a w e s => ?_
            exact ⟨v30, v33, hs34, hs41, hs43, e.sub (lk_of_allIn ⟨rfl, rfl, rfl, rfl, rfl, rfl, rfl, rfl, rfl, rfl, trivial⟩), s⟩
          · replace hj84 := cond_f hc112 hj84
            refine TC.k ?_
            refine TC.region ?_
            refine TO.s rfl rfl rfl (StepS.fld rfl kfieldB_106_2_2_true) ?_
            refine TO.s rfl rfl rfl (StepS.ldB rfl (Ent.at 0 rfl) kscalB_3_true rfl) ?_
            refine TO.s rfl rfl rfl (StepS.cmp rfl rfl rfl) ?_
            refine TO.s rfl rfl rfl (StepS.move rfl) ?_
            refine TO.mid1 5 82 (.bool ((decide (x71.2.2.1 < 0)) || (decide (x71.2.2.1 ≥ a0)))) ?_ ?_
            · refine bcase ((decide (x71.2.2.1 < 0))) (fun hb113 => ?_) (fun hb113 => ?_)
              · refine TO.skip rfl rfl rfl (skipT hb113) rfl rfl ?_
                refine TO.skip rfl rfl rfl (skipT hb113) rfl rfl ?_
                refine TO.skip rfl rfl rfl (skipT hb113) rfl rfl ?_
                refine TO.skip rfl rfl rfl (skipT hb113) rfl rfl ?_
                refine TO.s rfl rfl rfl (StepS.pickT rfl hb113 rfl) ?_
                exact TO.up1 5 0 rfl rfl (by rw [hb113]; rfl) rfl
              · refine TO.sw rfl rfl rfl hb113 rfl rfl (StepS.fld rfl kfieldB_106_2_2_true) ?_
                refine TO.sw rfl rfl rfl hb113 rfl rfl (StepS.ldB rfl (Ent.at 0 rfl) kscalB_3_true rfl) ?_
                refine TO.sw rfl rfl rfl hb113 rfl rfl (StepS.move rfl) ?_
                refine TO.sw rfl rfl rfl hb113 rfl rfl (StepS.cmp rfl rfl rfl) ?_
                refine TO.s rfl rfl rfl (StepS.pickF rfl hb113 rfl) ?_
                exact TO.up1 5 0 rfl rfl (by rw [hb113]; rfl) rfl
            refine TO.code ?_
            refine TC.cond rfl (fun hc114 => ?_) (fun hc114 => ?_)
            · replace hj84 := cond_t hc114 hj84
              refine TC.region ?_
              refine TO.s rfl rfl rfl (StepS.assign rfl) ?_
              cases hj84
              refine TO.nil fun a w e s => ?_
              exact ⟨v30, v33, hs34, hs41, hs43, e.sub (lk_of_allIn ⟨rfl, rfl, rfl, rfl, rfl, rfl, rfl, rfl, rfl, rfl, trivial⟩), s⟩
            · replace hj84 := cond_f hc114 hj84
              refine TC.k ?_
              refine TC.region ?_
              refine TO.s rfl rfl rfl (StepS.fld rfl kfieldB_106_3_3_true) ?_
              refine TO.s rfl rfl rfl (StepS.ldB rfl (Ent.at 0 rfl) kscalB_3_true rfl) ?_
              refine TO.s rfl rfl rfl (StepS.cmp rfl rfl rfl) ?_
              refine TO.s rfl rfl rfl (StepS.move rfl) ?_
              refine TO.mid1 6 92 (.bool ((decide (x71.2.2.2 < 0)) || (decide (x71.2.2.2 ≥ (y32.length : Int))))) ?_ ?_
              · refine bcase ((decide (x71.2.2.2 < 0))) (fun hb115 => ?_) (fun hb115 => ?_)
                · refine TO.skip rfl rfl rfl (skipT hb115) rfl rfl ?_
                  refine TO.skip rfl rfl rfl (skipT hb115) rfl rfl ?_
                  refine TO.skip rfl rfl rfl (skipT hb115) rfl rfl ?_
                  refine TO.skip rfl rfl rfl (skipT hb115) rfl rfl ?_
                  refine TO.skip rfl rfl rfl (skipT hb115) rfl rfl ?_
                  refine TO.s rfl rfl rfl (StepS.pickT rfl hb115 rfl) ?_
                  exact TO.up1 6 0 rfl rfl (by rw [hb115]; rfl) rfl
                · refine TO.sw rfl rfl rfl hb115 rfl rfl (StepS.fld rfl kfieldB_106_3_3_true) ?_
                  refine TO.sw rfl rfl rfl hb115 rfl rfl (StepS.ldB rfl (Ent.at 0 rfl) kscalB_3_true rfl) ?_
                  refine TO.sw rfl rfl rfl hb115 rfl rfl (StepS.move rfl) ?_
                  refine TO.sw rfl rfl rfl hb115 rfl rfl (StepS.lenm rfl (OwnS.rd (Ent.at 1 rfl)) ksliceB_22_3_1_true rfl) ?_
                  refine TO.sw rfl rfl rfl hb115 rfl rfl (StepS.cmp rfl rfl rfl) ?_
                  refine TO.s rfl rfl rfl (StepS.pickF rfl hb115 rfl) ?_
                  exact TO.up1 6 0 rfl rfl (by rw [hb115]; rfl) rfl
              refine TO.code ?_
              refine TC.cond rfl (fun hc116 => ?_) (fun hc116 => ?_)
              · replace hj84 := cond_t hc116 hj84
                refine TC.region ?_
                refine TO.s rfl rfl rfl (StepS.assign rfl) ?_
                cases hj84
                refine TO.nil fun a w e s => ?_
                exact ⟨v30, v33, hs34, hs41, hs43, e.sub (lk_of_allIn ⟨rfl, rfl, rfl, rfl, rfl, rfl, rfl, rfl, rfl, rfl, trivial⟩), s⟩
              · replace hj84 := cond_f hc116 hj84
                refine TC.k ?_
                refine TC.region_quiet kfollows_mixedOrders_true (by kernel_rfl) ?_
                refine TQ.s rfl rfl rfl (StepS.move rfl).q ?_
                refine TQ.s rfl rfl rfl (StepS.fld rfl kfieldB_106_3_3_true).q ?_
                refine TQ.s rfl rfl rfl (StepS.ldB rfl (Ent.at 0 rfl) kscalB_3_true rfl).q ?_
                obtain ⟨x117, hx118, hj84⟩ := bind_some hj84
                refine TQ.s rfl rfl rfl (StepS.idx rfl rfl (OwnS.rd (Ent.at 1 rfl)) ksliceB_22_3_1_true (idx_spec hx118).1 (idxm_lt hx118)).q ?_
                refine TQ.s rfl rfl rfl (StepS.ld0 rfl (OwnS.rd (Ent.at 1 rfl)) kscalB_3_true rfl (idxm hx118) rfl).q ?_
                refine TQ.s rfl rfl rfl (StepS.fld rfl kfieldB_106_2_2_true).q ?_
                refine TQ.s rfl rfl rfl (StepS.ldB rfl (Ent.at 0 rfl) kscalB_3_true rfl).q ?_
                refine TQ.s rfl rfl rfl (StepS.cmp rfl rfl rfl).q ?_
                refine TQ.s rfl rfl rfl (StepS.move rfl).q ?_
                obtain ⟨b120, hj121, hj84⟩ := bind_some hj84
                refine TQ.mid1 9 110 (.bool b120) ?_ ?_
                · refine bcase ((x117 == x71.2.2.1)) (fun hb119 => ?_) (fun hb119 => ?_)
                  · replace hj121 := cond_t hb119 hj121
                    cases hj121
                    refine TQ.skip rfl rfl rfl (skipT hb119) rfl rfl ?_
                    refine TQ.skip rfl rfl rfl (skipT hb119) rfl rfl ?_
                    refine TQ.skip rfl rfl rfl (skipT hb119) rfl rfl ?_
                    refine TQ.skip rfl rfl rfl (skipT hb119) rfl rfl ?_
                    refine TQ.skip rfl rfl rfl (skipT hb119) rfl rfl ?_
                    refine TQ.skip rfl rfl rfl (skipT hb119) rfl rfl ?_
                    refine TQ.skip rfl rfl rfl (skipT hb119) rfl rfl ?_
                    refine TQ.skip rfl rfl rfl (skipT hb119) rfl rfl ?_
                    refine TQ.s rfl rfl rfl (StepS.pickT rfl hb119 rfl).q ?_
                    exact TQ.up1 9 0 rfl rfl rfl rfl
                  · replace hj121 := cond_f hb119 hj121
                    refine TQ.sw rfl rfl rfl hb119 rfl rfl (StepS.move rfl).q ?_
                    refine TQ.sw rfl rfl rfl hb119 rfl rfl (StepS.fld rfl kfieldB_106_2_2_true).q ?_
                    refine TQ.sw rfl rfl rfl hb119 rfl rfl (StepS.ldB rfl (Ent.at 0 rfl) kscalB_3_true rfl).q ?_
                    obtain ⟨x122, hx123, hj121⟩ := bind_some hj121
                    refine TQ.sw rfl rfl rfl hb119 rfl rfl (StepS.idxRR rfl rfl (SS.rr (Ent.at 4 rfl)) ksliceB_50_22_1_true hx123).q ?_
                    refine TQ.sw rfl rfl rfl hb119 rfl rfl (StepS.ldRR rfl (SS.rr (Ent.at 4 rfl)) kscalB_22_true hx123).q ?_
                    refine TQ.sw rfl rfl rfl hb119 rfl rfl (StepS.fld rfl kfieldB_106_3_3_true).q ?_
                    refine TQ.sw rfl rfl rfl hb119 rfl rfl (StepS.ldB rfl (Ent.at 0 rfl) kscalB_3_true rfl).q ?_
                    obtain ⟨r125, hc126, hj121⟩ := bind_some hj121
                    refine TQ.sw rfl rfl rfl hb119 rfl rfl (StepQ.call kcallB_66_true rfl rfl (fun _ st => C66 (RR.row (SS.rr (Ent.at 4 rfl)) hx123) hc126 st)) ?_
                    cases hj121
                    refine TQ.s rfl rfl rfl (StepS.pickF rfl hb119 rfl).q ?_
                    exact TQ.up1 9 0 rfl rfl rfl rfl
                refine TQ.code ?_
                refine TC.cond rfl (fun hc127 => ?_) (fun hc127 => ?_)
                · replace hj84 := cond_t hc127 hj84
                  refine TC.region ?_
                  refine TO.s rfl rfl rfl (StepS.assign rfl) ?_
                  cases hj84
                  refine TO.nil fun a w e s => ?_
                  exact ⟨v30, v33, hs34, hs41, hs43, e.sub (lk_of_allIn ⟨rfl, rfl, rfl, rfl, rfl, rfl, rfl, rfl, rfl, rfl, trivial⟩), s⟩
                · replace hj84 := cond_f hc127 hj84
                  refine TC.k ?_
                  obtain ⟨y129, hj131, hj84⟩ := bind_some hj84
                  first | refine TC.cutM (fun a w => ∃ hs130 : List Value, Mid 196 B [(0, I a0), (4, .pointer (some ⟨b3, 0, none⟩)), (5, .pointer (some ⟨b10, 0, none⟩)), (6, v30), (7, v33), (8, v14), (10, .pointer (some ⟨b73, 0, none⟩)), (11, I 0), (22, h1), (23, I (a1.length : Int)), (24, I x44)] (Bx b73 106 [I x71.1, I x71.2.1, I x71.2.2.1, I x71.2.2.2] :: OwnS 3 1 v30 (y32.map cI) :: SS 22 3 1 cI v33 hs34 (y36) :: OwnS 28 1 v37 (y39.map cI) :: SS 22 3 1 cI v14 hs130 (y129) :: Bx b10 63 [v37, v6] :: SS 22 3 1 cI v6 hs43 (y42) :: Bx b3 63 [.slice none 0 0, .slice none 0 0] :: L) a w) ?_ ?_ | refine TC.cutX (fun a w => ∃ hs130 : List Value, Mid 196 B [(0, I a0), (4, .pointer (some ⟨b3, 0, none⟩)), (5, .pointer (some ⟨b10, 0, none⟩)), (6, v30), (7, v33), (8, v14), (10, .pointer (some ⟨b73, 0, none⟩)), (11, I 0), (22, h1), (23, I (a1.length : Int)), (24, I x44)] (Bx b73 106 [I x71.1, I x71.2.1, I x71.2.2.1, I x71.2.2.2] :: OwnS 3 1 v30 (y32.map cI) :: SS 22 3 1 cI v33 hs34 (y36) :: OwnS 28 1 v37 (y39.map cI) :: SS 22 3 1 cI v14 hs130 (y129) :: Bx b10 63 [v37, v6] :: SS 22 3 1 cI v6 hs43 (y42) :: Bx b3 63 [.slice none 0 0, .slice none 0 0] :: L) a w) ?_ ?_
                  · obtain ⟨xq128_6_1, hxq128_6_2, hj131⟩ := bind_some hj131
                    obtain ⟨yq128_11_2, hkq128_11_3, hj131⟩ := bind_some hj131
                    obtain ⟨xq128_12_1, hxq128_12_2, hj131⟩ := bind_some hj131
                    refine TC.region_any (Bx b73 106 [I x71.1, I x71.2.1, I x71.2.2.1, I x71.2.2.2] :: OwnS 3 1 v30 (y32.map cI) :: SS 22 3 1 cI v33 hs34 (y36) :: OwnS 28 1 v37 (y39.map cI) :: Bx b10 63 [v37, v6] :: SS 22 3 1 cI v6 hs43 (y42) :: Bx b3 63 [.slice none 0 0, .slice none 0 0] :: L) 13 14 kfollows_mixedOrders_true rfl ?_
                    refine TA.takeW 0 rfl rfl rfl rfl (StepS.move rfl) (by kernel_rfl) (by kernel_rfl) (by kernel_rfl) rfl (.inr (fun _ s => Sat.by [7, 7, 7, 6, 6, 6, 6] 7 1 (by kernel_rfl) s)) ?_
                    refine TA.takeW 1 rfl rfl rfl rfl (StepS.fld rfl kfieldB_106_2_2_true) (by kernel_rfl) (by kernel_rfl) (by kernel_rfl) rfl (.inr (fun _ s => Sat.by [7, 7, 7, 6, 6, 6, 6] 7 1 (by kernel_rfl) s)) ?_
                    refine TA.take 2 rfl rfl rfl rfl (StepS.ldB rfl (Ent.at 0 rfl) kscalB_3_true rfl) (by kernel_rfl) (by kernel_rfl) (by kernel_rfl) (by kernel_rfl) (by kernel_rfl) (fun _ s => Sat.by [7, 7, 7, 6, 6, 6, 6] 7 1 (by kernel_rfl) s) ?_
                    refine TA.takeW 3 rfl rfl rfl rfl (StepS.move rfl) (by kernel_rfl) (by kernel_rfl) (by kernel_rfl) rfl (.inr (fun _ s => Sat.by [7, 7, 7, 6, 6, 6, 6] 7 1 (by kernel_rfl) s)) ?_
                    refine TA.takeW 4 rfl rfl rfl rfl (StepS.fld rfl kfieldB_106_2_2_true) (by kernel_rfl) (by kernel_rfl) (by kernel_rfl) rfl (.inr (fun _ s => Sat.by [7, 7, 7, 6, 6, 6, 6] 7 1 (by kernel_rfl) s)) ?_
                    refine TA.take 5 rfl rfl rfl rfl (StepS.ldB rfl (Ent.at 0 rfl) kscalB_3_true rfl) (by kernel_rfl) (by kernel_rfl) (by kernel_rfl) (by kernel_rfl) (by kernel_rfl) (fun _ s => Sat.by [7, 7, 7, 6, 6, 6, 6] 7 1 (by kernel_rfl) s) ?_
                    refine TA.takeW 8 rfl rfl rfl rfl (StepS.fld rfl kfieldB_106_3_3_true) (by kernel_rfl) (by kernel_rfl) (by kernel_rfl) rfl (.inr (fun _ s => Sat.by [7, 7, 7, 6, 6, 6, 6] 7 1 (by kernel_rfl) s)) ?_
                    refine TA.take 9 rfl rfl rfl rfl (StepS.ldB rfl (Ent.at 0 rfl) kscalB_3_true rfl) (by kernel_rfl) (by kernel_rfl) (by kernel_rfl) (by kernel_rfl) (by kernel_rfl) (fun _ s => Sat.by [7, 7, 7, 6, 6, 6, 6] 7 1 (by kernel_rfl) s) ?_
                    refine TA.all2 (i := 6) (j := 10) (by kernel_rfl) ?_ ?_
                    · refine TB.of rfl ?_
                      refine TO.s rfl rfl rfl (StepS.idxRR rfl rfl (SS.rr (Ent.at 4 rfl)) ksliceB_50_22_1_true hxq128_6_2) ?_
                      refine TA.back (.inr (fun _ s => Sat.by [7, 7, 7, 6, 6, 6, 6] 7 1 (by kernel_rfl) s)) ?_
                      refine TA.asL (L' := (Bx b73 106 [I x71.1, I x71.2.1, I x71.2.2.1, I x71.2.2.2] :: OwnS 3 1 v30 (y32.map cI) :: SS 22 3 1 cI v33 hs34 (y36) :: OwnS 28 1 v37 (y39.map cI) :: SS 22 3 1 cI v14 hs41 (y40) :: Bx b10 63 [v37, v6] :: SS 22 3 1 cI v6 hs43 (y42) :: Bx b3 63 [.slice none 0 0, .slice none 0 0] :: L)) (listed' := #[true, true, true, true, true, true, true, false, true, true, false, false, false, false]) (by kernel_rfl) (by kernel_rfl) ?_
                      refine TA.all2 (i := 7) (j := 10) (by kernel_rfl) ?_ ?_
                      · refine TB.of rfl ?_
                        refine TO.s rfl rfl rfl (StepS.ldRR rfl (SS.rr (Ent.at 4 rfl)) kscalB_22_true hxq128_6_2) ?_
                        refine TA.back (.inr (fun _ s => Sat.by [7, 7, 7, 6, 6, 6, 6] 7 1 (by kernel_rfl) s)) ?_
                        refine TA.asL (L' := (Bx b73 106 [I x71.1, I x71.2.1, I x71.2.2.1, I x71.2.2.2] :: OwnS 3 1 v30 (y32.map cI) :: SS 22 3 1 cI v33 hs34 (y36) :: OwnS 28 1 v37 (y39.map cI) :: SS 22 3 1 cI v14 hs41 (y40) :: Bx b10 63 [v37, v6] :: SS 22 3 1 cI v6 hs43 (y42) :: Bx b3 63 [.slice none 0 0, .slice none 0 0] :: L)) (listed' := #[true, true, true, true, true, true, true, true, true, true, false, false, false, false]) (by kernel_rfl) (by kernel_rfl) ?_
                        refine TA.all1 (i := 10) (by kernel_rfl) ?_
                        refine TB.of rfl ?_
                        refine TO.litS (f := cI) ([x71.2.2.2] : List Int) kelemB_22_3_1_8_true kinfo_3_bind_zero_some_I_0 rfl rfl (fun _ => rfl) rfl rfl (by kernel_rfl) rfl fun vq128_10_1 => ?_
                        refine TA.back (.inr (fun _ s => Sat.by [8, 8, 8, 7, 7, 7, 7] 7 2 (by kernel_rfl) s)) ?_
                        refine TA.asL (L' := (OwnS 3 1 vq128_10_1 (([x71.2.2.2] : List Int).map cI) :: Bx b73 106 [I x71.1, I x71.2.1, I x71.2.2.1, I x71.2.2.2] :: OwnS 3 1 v30 (y32.map cI) :: SS 22 3 1 cI v33 hs34 (y36) :: OwnS 28 1 v37 (y39.map cI) :: SS 22 3 1 cI v14 hs41 (y40) :: Bx b10 63 [v37, v6] :: SS 22 3 1 cI v6 hs43 (y42) :: Bx b3 63 [.slice none 0 0, .slice none 0 0] :: L)) (listed' := #[true, true, true, true, true, true, true, true, true, true, true, false, false, false]) (by kernel_rfl) (by kernel_rfl) ?_
                        refine TA.all1 (i := 11) (by kernel_rfl) ?_
                        refine TB.of rfl ?_
                        refine TO.ghost (fun _ s => Sat.front 5 rfl s) ?_
                        refine TO.ghost (fun _ s => Sat.openRow hxq128_6_2 s) ?_
                        refine TO.app (k := 0) (f := cI) kelemB_22_3_1_8_true (by decide) rfl rfl rfl (OwnS.rd (Ent.at 2 rfl)) hkq128_11_3 (fun x c hc => by simp [Value.oneCell'] at hc ⊢; first | (obtain rfl := hc; rfl) | (rcases hc with rfl <;> rfl)) rfl rfl fun vq128_11_4 => ?_
                        refine TA.back (.inr (fun _ s => Sat.by [9, 9, 9, 9, 9, 9, 9] 7 3 (by kernel_rfl) s)) ?_
                        refine TA.asL (L' := (OwnS 3 1 vq128_11_4 (yq128_11_2.map cI) :: SSh 22 3 1 cI v14 hs41 (y40) x71.2.2.1.toNat :: OwnS 3 1 vq128_10_1 (([x71.2.2.2] : List Int).map cI) :: Bx b73 106 [I x71.1, I x71.2.1, I x71.2.2.1, I x71.2.2.2] :: OwnS 3 1 v30 (y32.map cI) :: SS 22 3 1 cI v33 hs34 (y36) :: OwnS 28 1 v37 (y39.map cI) :: Bx b10 63 [v37, v6] :: SS 22 3 1 cI v6 hs43 (y42) :: Bx b3 63 [.slice none 0 0, .slice none 0 0] :: L)) (listed' := #[true, true, true, true, true, true, true, true, true, true, true, true, false, false]) (by kernel_rfl) (by kernel_rfl) ?_
                        refine TA.all1 (i := 12) (by kernel_rfl) ?_
                        refine TB.of rfl ?_
                        refine TO.s rfl rfl rfl (StepS.idxRH rfl rfl (Ent.at 1 rfl) ksliceB_50_22_1_true hxq128_12_2) ?_
                        refine TA.back (.inr (fun _ s => Sat.by [9, 9, 9, 9, 9, 9, 9] 7 3 (by kernel_rfl) s)) ?_
                        refine TA.asL (L' := (OwnS 3 1 vq128_11_4 (yq128_11_2.map cI) :: SSh 22 3 1 cI v14 hs41 (y40) x71.2.2.1.toNat :: OwnS 3 1 vq128_10_1 (([x71.2.2.2] : List Int).map cI) :: Bx b73 106 [I x71.1, I x71.2.1, I x71.2.2.1, I x71.2.2.2] :: OwnS 3 1 v30 (y32.map cI) :: SS 22 3 1 cI v33 hs34 (y36) :: OwnS 28 1 v37 (y39.map cI) :: Bx b10 63 [v37, v6] :: SS 22 3 1 cI v6 hs43 (y42) :: Bx b3 63 [.slice none 0 0, .slice none 0 0] :: L)) (listed' := #[true, true, true, true, true, true, true, true, true, true, true, true, true, false]) (by kernel_rfl) (by kernel_rfl) ?_
                        refine TA.all1 (i := 13) (by kernel_rfl) ?_
                        refine TB.of rfl ?_
                        refine TO.ghost (fun _ s => Sat.front 1 rfl s) ?_
                        refine TO.stRowH (xs := yq128_11_2) rfl rfl hxq128_12_2 ksizeB_22_1_true ?_
                        refine TA.back (.inl (by kernel_rfl)) ?_
                        refine TA.asL (L' := (SS 22 3 1 cI v14 (hs41.set x71.2.2.1.toNat vq128_11_4) (y40.set x71.2.2.1.toNat yq128_11_2) :: OwnS 3 1 vq128_10_1 (([x71.2.2.2] : List Int).map cI) :: Bx b73 106 [I x71.1, I x71.2.1, I x71.2.2.1, I x71.2.2.2] :: OwnS 3 1 v30 (y32.map cI) :: SS 22 3 1 cI v33 hs34 (y36) :: OwnS 28 1 v37 (y39.map cI) :: Bx b10 63 [v37, v6] :: SS 22 3 1 cI v6 hs43 (y42) :: Bx b3 63 [.slice none 0 0, .slice none 0 0] :: L)) (listed' := #[true, true, true, true, true, true, true, true, true, true, true, true, true, true]) (by kernel_rfl) (by kernel_rfl) ?_
                        cases hj131
                        refine TA.nil (by kernel_rfl) fun a w e s => ?_
                        exact ⟨(hs41.set x71.2.2.1.toNat vq128_11_4), e.sub (lk_of_allIn ⟨rfl, rfl, rfl, rfl, rfl, rfl, rfl, rfl, rfl, rfl, rfl, trivial⟩), s.mono fun _ s => (by exact Sat.by [8, 8, 8, 3, 8, 8, 8, 8] 8 1 (by kernel_rfl) s)⟩
                      · refine TB.of rfl ?_
                        refine TO.litS (f := cI) ([x71.2.2.2] : List Int) kelemB_22_3_1_8_true kinfo_3_bind_zero_some_I_0 rfl rfl (fun _ => rfl) rfl rfl (by kernel_rfl) rfl fun vq128_10_1 => ?_
                        refine TA.back (.inr (fun _ s => Sat.by [8, 8, 8, 7, 7, 7, 7] 7 2 (by kernel_rfl) s)) ?_
                        refine TA.asL (L' := (OwnS 3 1 vq128_10_1 (([x71.2.2.2] : List Int).map cI) :: Bx b73 106 [I x71.1, I x71.2.1, I x71.2.2.1, I x71.2.2.2] :: OwnS 3 1 v30 (y32.map cI) :: SS 22 3 1 cI v33 hs34 (y36) :: OwnS 28 1 v37 (y39.map cI) :: SS 22 3 1 cI v14 hs41 (y40) :: Bx b10 63 [v37, v6] :: SS 22 3 1 cI v6 hs43 (y42) :: Bx b3 63 [.slice none 0 0, .slice none 0 0] :: L)) (listed' := #[true, true, true, true, true, true, true, false, true, true, true, false, false, false]) (by kernel_rfl) (by kernel_rfl) ?_
                        refine TA.all1 (i := 7) (by kernel_rfl) ?_
                        refine TB.of rfl ?_
                        refine TO.s rfl rfl rfl (StepS.ldRR rfl (SS.rr (Ent.at 5 rfl)) kscalB_22_true hxq128_6_2) ?_
                        refine TA.back (.inr (fun _ s => Sat.by [8, 8, 8, 7, 7, 7, 7] 7 2 (by kernel_rfl) s)) ?_
                        refine TA.asL (L' := (OwnS 3 1 vq128_10_1 (([x71.2.2.2] : List Int).map cI) :: Bx b73 106 [I x71.1, I x71.2.1, I x71.2.2.1, I x71.2.2.2] :: OwnS 3 1 v30 (y32.map cI) :: SS 22 3 1 cI v33 hs34 (y36) :: OwnS 28 1 v37 (y39.map cI) :: SS 22 3 1 cI v14 hs41 (y40) :: Bx b10 63 [v37, v6] :: SS 22 3 1 cI v6 hs43 (y42) :: Bx b3 63 [.slice none 0 0, .slice none 0 0] :: L)) (listed' := #[true, true, true, true, true, true, true, true, true, true, true, false, false, false]) (by kernel_rfl) (by kernel_rfl) ?_
                        refine TA.all1 (i := 11) (by kernel_rfl) ?_
                        refine TB.of rfl ?_
                        refine TO.ghost (fun _ s => Sat.front 5 rfl s) ?_
                        refine TO.ghost (fun _ s => Sat.openRow hxq128_6_2 s) ?_
                        refine TO.app (k := 0) (f := cI) kelemB_22_3_1_8_true (by decide) rfl rfl rfl (OwnS.rd (Ent.at 2 rfl)) hkq128_11_3 (fun x c hc => by simp [Value.oneCell'] at hc ⊢; first | (obtain rfl := hc; rfl) | (rcases hc with rfl <;> rfl)) rfl rfl fun vq128_11_4 => ?_
                        refine TA.back (.inr (fun _ s => Sat.by [9, 9, 9, 9, 9, 9, 9] 7 3 (by kernel_rfl) s)) ?_
                        refine TA.asL (L' := (OwnS 3 1 vq128_11_4 (yq128_11_2.map cI) :: SSh 22 3 1 cI v14 hs41 (y40) x71.2.2.1.toNat :: OwnS 3 1 vq128_10_1 (([x71.2.2.2] : List Int).map cI) :: Bx b73 106 [I x71.1, I x71.2.1, I x71.2.2.1, I x71.2.2.2] :: OwnS 3 1 v30 (y32.map cI) :: SS 22 3 1 cI v33 hs34 (y36) :: OwnS 28 1 v37 (y39.map cI) :: Bx b10 63 [v37, v6] :: SS 22 3 1 cI v6 hs43 (y42) :: Bx b3 63 [.slice none 0 0, .slice none 0 0] :: L)) (listed' := #[true, true, true, true, true, true, true, true, true, true, true, true, false, false]) (by kernel_rfl) (by kernel_rfl) ?_
                        refine TA.all1 (i := 12) (by kernel_rfl) ?_
                        refine TB.of rfl ?_
                        refine TO.s rfl rfl rfl (StepS.idxRH rfl rfl (Ent.at 1 rfl) ksliceB_50_22_1_true hxq128_12_2) ?_
                        refine TA.back (.inr (fun _ s => Sat.by [9, 9, 9, 9, 9, 9, 9] 7 3 (by kernel_rfl) s)) ?_
                        refine TA.asL (L' := (OwnS 3 1 vq128_11_4 (yq128_11_2.map cI) :: SSh 22 3 1 cI v14 hs41 (y40) x71.2.2.1.toNat :: OwnS 3 1 vq128_10_1 (([x71.2.2.2] : List Int).map cI) :: Bx b73 106 [I x71.1, I x71.2.1, I x71.2.2.1, I x71.2.2.2] :: OwnS 3 1 v30 (y32.map cI) :: SS 22 3 1 cI v33 hs34 (y36) :: OwnS 28 1 v37 (y39.map cI) :: Bx b10 63 [v37, v6] :: SS 22 3 1 cI v6 hs43 (y42) :: Bx b3 63 [.slice none 0 0, .slice none 0 0] :: L)) (listed' := #[true, true, true, true, true, true, true, true, true, true, true, true, true, false]) (by kernel_rfl) (by kernel_rfl) ?_
                        refine TA.all1 (i := 13) (by kernel_rfl) ?_
                        refine TB.of rfl ?_
                        refine TO.ghost (fun _ s => Sat.front 1 rfl s) ?_
                        refine TO.stRowH (xs := yq128_11_2) rfl rfl hxq128_12_2 ksizeB_22_1_true ?_
                        refine TA.back (.inl (by kernel_rfl)) ?_
                        refine TA.asL (L' := (SS 22 3 1 cI v14 (hs41.set x71.2.2.1.toNat vq128_11_4) (y40.set x71.2.2.1.toNat yq128_11_2) :: OwnS 3 1 vq128_10_1 (([x71.2.2.2] : List Int).map cI) :: Bx b73 106 [I x71.1, I x71.2.1, I x71.2.2.1, I x71.2.2.2] :: OwnS 3 1 v30 (y32.map cI) :: SS 22 3 1 cI v33 hs34 (y36) :: OwnS 28 1 v37 (y39.map cI) :: Bx b10 63 [v37, v6] :: SS 22 3 1 cI v6 hs43 (y42) :: Bx b3 63 [.slice none 0 0, .slice none 0 0] :: L)) (listed' := #[true, true, true, true, true, true, true, true, true, true, true, true, true, true]) (by kernel_rfl) (by kernel_rfl) ?_
                        cases hj131
                        refine TA.nil (by kernel_rfl) fun a w e s => ?_
                        exact ⟨(hs41.set x71.2.2.1.toNat vq128_11_4), e.sub (lk_of_allIn ⟨rfl, rfl, rfl, rfl, rfl, rfl, rfl, rfl, rfl, rfl, rfl, trivial⟩), s.mono fun _ s => (by exact Sat.by [8, 8, 8, 3, 8, 8, 8, 8] 8 1 (by kernel_rfl) s)⟩
                    · refine TB.of rfl ?_
                      refine TO.litS (f := cI) ([x71.2.2.2] : List Int) kelemB_22_3_1_8_true kinfo_3_bind_zero_some_I_0 rfl rfl (fun _ => rfl) rfl rfl (by kernel_rfl) rfl fun vq128_10_1 => ?_
                      refine TA.back (.inr (fun _ s => Sat.by [8, 8, 8, 7, 7, 7, 7] 7 2 (by kernel_rfl) s)) ?_
                      refine TA.asL (L' := (OwnS 3 1 vq128_10_1 (([x71.2.2.2] : List Int).map cI) :: Bx b73 106 [I x71.1, I x71.2.1, I x71.2.2.1, I x71.2.2.2] :: OwnS 3 1 v30 (y32.map cI) :: SS 22 3 1 cI v33 hs34 (y36) :: OwnS 28 1 v37 (y39.map cI) :: SS 22 3 1 cI v14 hs41 (y40) :: Bx b10 63 [v37, v6] :: SS 22 3 1 cI v6 hs43 (y42) :: Bx b3 63 [.slice none 0 0, .slice none 0 0] :: L)) (listed' := #[true, true, true, true, true, true, false, false, true, true, true, false, false, false]) (by kernel_rfl) (by kernel_rfl) ?_
                      refine TA.all1 (i := 6) (by kernel_rfl) ?_
                      refine TB.of rfl ?_
                      refine TO.s rfl rfl rfl (StepS.idxRR rfl rfl (SS.rr (Ent.at 5 rfl)) ksliceB_50_22_1_true hxq128_6_2) ?_
                      refine TA.back (.inr (fun _ s => Sat.by [8, 8, 8, 7, 7, 7, 7] 7 2 (by kernel_rfl) s)) ?_
                      refine TA.asL (L' := (OwnS 3 1 vq128_10_1 (([x71.2.2.2] : List Int).map cI) :: Bx b73 106 [I x71.1, I x71.2.1, I x71.2.2.1, I x71.2.2.2] :: OwnS 3 1 v30 (y32.map cI) :: SS 22 3 1 cI v33 hs34 (y36) :: OwnS 28 1 v37 (y39.map cI) :: SS 22 3 1 cI v14 hs41 (y40) :: Bx b10 63 [v37, v6] :: SS 22 3 1 cI v6 hs43 (y42) :: Bx b3 63 [.slice none 0 0, .slice none 0 0] :: L)) (listed' := #[true, true, true, true, true, true, true, false, true, true, true, false, false, false]) (by kernel_rfl) (by kernel_rfl) ?_
                      refine TA.all1 (i := 7) (by kernel_rfl) ?_
                      refine TB.of rfl ?_
                      refine TO.s rfl rfl rfl (StepS.ldRR rfl (SS.rr (Ent.at 5 rfl)) kscalB_22_true hxq128_6_2) ?_
                      refine TA.back (.inr (fun _ s => Sat.by [8, 8, 8, 7, 7, 7, 7] 7 2 (by kernel_rfl) s)) ?_
                      refine TA.asL (L' := (OwnS 3 1 vq128_10_1 (([x71.2.2.2] : List Int).map cI) :: Bx b73 106 [I x71.1, I x71.2.1, I x71.2.2.1, I x71.2.2.2] :: OwnS 3 1 v30 (y32.map cI) :: SS 22 3 1 cI v33 hs34 (y36) :: OwnS 28 1 v37 (y39.map cI) :: SS 22 3 1 cI v14 hs41 (y40) :: Bx b10 63 [v37, v6] :: SS 22 3 1 cI v6 hs43 (y42) :: Bx b3 63 [.slice none 0 0, .slice none 0 0] :: L)) (listed' := #[true, true, true, true, true, true, true, true, true, true, true, false, false, false]) (by kernel_rfl) (by kernel_rfl) ?_
                      refine TA.all1 (i := 11) (by kernel_rfl) ?_
                      refine TB.of rfl ?_
                      refine TO.ghost (fun _ s => Sat.front 5 rfl s) ?_
                      refine TO.ghost (fun _ s => Sat.openRow hxq128_6_2 s) ?_
                      refine TO.app (k := 0) (f := cI) kelemB_22_3_1_8_true (by decide) rfl rfl rfl (OwnS.rd (Ent.at 2 rfl)) hkq128_11_3 (fun x c hc => by simp [Value.oneCell'] at hc ⊢; first | (obtain rfl := hc; rfl) | (rcases hc with rfl <;> rfl)) rfl rfl fun vq128_11_4 => ?_
                      refine TA.back (.inr (fun _ s => Sat.by [9, 9, 9, 9, 9, 9, 9] 7 3 (by kernel_rfl) s)) ?_
                      refine TA.asL (L' := (OwnS 3 1 vq128_11_4 (yq128_11_2.map cI) :: SSh 22 3 1 cI v14 hs41 (y40) x71.2.2.1.toNat :: OwnS 3 1 vq128_10_1 (([x71.2.2.2] : List Int).map cI) :: Bx b73 106 [I x71.1, I x71.2.1, I x71.2.2.1, I x71.2.2.2] :: OwnS 3 1 v30 (y32.map cI) :: SS 22 3 1 cI v33 hs34 (y36) :: OwnS 28 1 v37 (y39.map cI) :: Bx b10 63 [v37, v6] :: SS 22 3 1 cI v6 hs43 (y42) :: Bx b3 63 [.slice none 0 0, .slice none 0 0] :: L)) (listed' := #[true, true, true, true, true, true, true, true, true, true, true, true, false, false]) (by kernel_rfl) (by kernel_rfl) ?_
                      refine TA.all1 (i := 12) (by kernel_rfl) ?_
                      refine TB.of rfl ?_
                      refine TO.s rfl rfl rfl (StepS.idxRH rfl rfl (Ent.at 1 rfl) ksliceB_50_22_1_true hxq128_12_2) ?_
                      refine TA.back (.inr (fun _ s => Sat.by [9, 9, 9, 9, 9, 9, 9] 7 3 (by kernel_rfl) s)) ?_
                      refine TA.asL (L' := (OwnS 3 1 vq128_11_4 (yq128_11_2.map cI) :: SSh 22 3 1 cI v14 hs41 (y40) x71.2.2.1.toNat :: OwnS 3 1 vq128_10_1 (([x71.2.2.2] : List Int).map cI) :: Bx b73 106 [I x71.1, I x71.2.1, I x71.2.2.1, I x71.2.2.2] :: OwnS 3 1 v30 (y32.map cI) :: SS 22 3 1 cI v33 hs34 (y36) :: OwnS 28 1 v37 (y39.map cI) :: Bx b10 63 [v37, v6] :: SS 22 3 1 cI v6 hs43 (y42) :: Bx b3 63 [.slice none 0 0, .slice none 0 0] :: L)) (listed' := #[true, true, true, true, true, true, true, true, true, true, true, true, true, false]) (by kernel_rfl) (by kernel_rfl) ?_
                      refine TA.all1 (i := 13) (by kernel_rfl) ?_
                      refine TB.of rfl ?_
                      refine TO.ghost (fun _ s => Sat.front 1 rfl s) ?_
                      refine TO.stRowH (xs := yq128_11_2) rfl rfl hxq128_12_2 ksizeB_22_1_true ?_
                      refine TA.back (.inl (by kernel_rfl)) ?_
                      refine TA.asL (L' := (SS 22 3 1 cI v14 (hs41.set x71.2.2.1.toNat vq128_11_4) (y40.set x71.2.2.1.toNat yq128_11_2) :: OwnS 3 1 vq128_10_1 (([x71.2.2.2] : List Int).map cI) :: Bx b73 106 [I x71.1, I x71.2.1, I x71.2.2.1, I x71.2.2.2] :: OwnS 3 1 v30 (y32.map cI) :: SS 22 3 1 cI v33 hs34 (y36) :: OwnS 28 1 v37 (y39.map cI) :: Bx b10 63 [v37, v6] :: SS 22 3 1 cI v6 hs43 (y42) :: Bx b3 63 [.slice none 0 0, .slice none 0 0] :: L)) (listed' := #[true, true, true, true, true, true, true, true, true, true, true, true, true, true]) (by kernel_rfl) (by kernel_rfl) ?_
                      cases hj131
                      refine TA.nil (by kernel_rfl) fun a w e s => ?_
                      exact ⟨(hs41.set x71.2.2.1.toNat vq128_11_4), e.sub (lk_of_allIn ⟨rfl, rfl, rfl, rfl, rfl, rfl, rfl, rfl, rfl, rfl, rfl, trivial⟩), s.mono fun _ s => (by exact Sat.by [8, 8, 8, 3, 8, 8, 8, 8] 8 1 (by kernel_rfl) s)⟩
                  · intro a w ⟨hs130, he, hs⟩
                    refine TC.use ?_ he hs
                    obtain ⟨o138, hw139, hj84⟩ := bind_some hj84
                    refine TC.loop hw139 (fun y132 => fun a w => ∃ hs133 : List Value, Mid 196 B [(0, I a0), (4, .pointer (some ⟨b3, 0, none⟩)), (5, .pointer (some ⟨b10, 0, none⟩)), (6, v30), (7, v33), (8, v14), (10, .pointer (some ⟨b73, 0, none⟩)), (11, I 0), (22, h1), (23, I (a1.length : Int)), (24, I x44)] (Bx b73 106 [I x71.1, I x71.2.1, I x71.2.2.1, I x71.2.2.2] :: OwnS 3 1 v30 (y32.map cI) :: SS 22 3 1 cI v33 hs34 (y36) :: OwnS 28 1 v37 (y39.map cI) :: SS 22 3 1 cI v14 hs130 (y129) :: Bx b10 63 [v37, v6] :: SS 22 3 1 cI v6 hs133 (y132) :: Bx b3 63 [.slice none 0 0, .slice none 0 0] :: L) a w) (fun y136 => fun a w => ∃ hs137 : List Value, Mid 196 B [(0, I a0), (4, .pointer (some ⟨b3, 0, none⟩)), (5, .pointer (some ⟨b10, 0, none⟩)), (6, v30), (7, v33), (8, v14), (11, I 0), (22, h1), (23, I (a1.length : Int)), (24, I x44)] (Bx b73 106 [I x71.1, I x71.2.1, I x71.2.2.1, I x71.2.2.2] :: OwnS 3 1 v30 (y32.map cI) :: SS 22 3 1 cI v33 hs34 (y36) :: OwnS 28 1 v37 (y39.map cI) :: SS 22 3 1 cI v14 hs130 (y129) :: Bx b10 63 [v37, v6] :: SS 22 3 1 cI v6 hs137 (y136) :: Bx b3 63 [.slice none 0 0, .slice none 0 0] :: L) a w) (fun (_ : Unit) _ _ => False) ?_ ?_ ?_ ?_
                    · rintro y132 o138r hb140 a w ⟨hs133, he, hs⟩
                      dsimp only [F32_L1] at hb140
                      refine TC.use ?_ he hs
                      refine TC.block ?_
                      refine TC.k ?_
                      refine TC.region ?_
                      refine TO.s rfl rfl rfl (StepS.assign rfl) ?_
                      refine TO.code ?_
                      refine TC.k ?_
                      refine TC.k ?_
                      refine TC.region ?_
                      refine TO.s rfl rfl rfl (StepS.move rfl) ?_
                      refine TO.s rfl rfl rfl (StepS.lenm rfl (OwnS.rd (Ent.at 1 rfl)) ksliceB_22_3_1_true rfl) ?_
                      refine TO.s rfl rfl rfl (StepS.ari rfl rfl rfl) ?_
                      refine TO.s rfl rfl rfl (StepS.assign rfl) ?_
                      refine TO.code ?_
                      obtain ⟨o146, hw147, hb140⟩ := bind_some hb140
                      refine TC.loop hw147 (fun (x141, x142) => fun a w => Mid 196 B [(0, I a0), (4, .pointer (some ⟨b3, 0, none⟩)), (5, .pointer (some ⟨b10, 0, none⟩)), (6, v30), (7, v33), (8, v14), (10, .pointer (some ⟨b73, 0, none⟩)), (11, I 0), (12, I x141), (13, I x142), (22, h1), (23, I (a1.length : Int)), (24, I x44)] (Bx b73 106 [I x71.1, I x71.2.1, I x71.2.2.1, I x71.2.2.2] :: OwnS 3 1 v30 (y32.map cI) :: SS 22 3 1 cI v33 hs34 (y36) :: OwnS 28 1 v37 (y39.map cI) :: SS 22 3 1 cI v14 hs130 (y129) :: Bx b10 63 [v37, v6] :: SS 22 3 1 cI v6 hs133 (y132) :: Bx b3 63 [.slice none 0 0, .slice none 0 0] :: L) a w) (fun x145 => fun a w => Mid 196 B [(0, I a0), (4, .pointer (some ⟨b3, 0, none⟩)), (5, .pointer (some ⟨b10, 0, none⟩)), (6, v30), (7, v33), (8, v14), (10, .pointer (some ⟨b73, 0, none⟩)), (11, I 0), (12, I x145), (22, h1), (23, I (a1.length : Int)), (24, I x44)] (Bx b73 106 [I x71.1, I x71.2.1, I x71.2.2.1, I x71.2.2.2] :: OwnS 3 1 v30 (y32.map cI) :: SS 22 3 1 cI v33 hs34 (y36) :: OwnS 28 1 v37 (y39.map cI) :: SS 22 3 1 cI v14 hs130 (y129) :: Bx b10 63 [v37, v6] :: SS 22 3 1 cI v6 hs133 (y132) :: Bx b3 63 [.slice none 0 0, .slice none 0 0] :: L) a w) (fun (_ : Unit) _ _ => False) ?_ ?_ ?_ ?_
                      · rintro ⟨x141, x142⟩ o146r hb148 a w ⟨he, hs⟩
                        dsimp only [F32_L2] at hb148
                        refine TC.use ?_ he hs
                        refine TC.k ?_
                        refine TC.k ?_
                        refine TC.region ?_
                        refine TO.s rfl rfl rfl (StepS.move rfl) ?_
                        refine TO.s rfl rfl rfl (StepS.cmp rfl rfl rfl) ?_
                        refine TO.code ?_
                        refine TC.cond rfl (fun hc149 => ?_) (fun hc149 => ?_)
                        · replace hb148 := cond_t hc149 hb148
                          refine TC.skipk ?_
                          refine TC.k ?_
                          obtain ⟨x150, hj151, hb148⟩ := bind_some hb148
                          first | refine TC.cutM (fun a w => Mid 196 B [(0, I a0), (4, .pointer (some ⟨b3, 0, none⟩)), (5, .pointer (some ⟨b10, 0, none⟩)), (6, v30), (7, v33), (8, v14), (10, .pointer (some ⟨b73, 0, none⟩)), (11, I 0), (12, I x150), (13, I x142), (22, h1), (23, I (a1.length : Int)), (24, I x44)] (Bx b73 106 [I x71.1, I x71.2.1, I x71.2.2.1, I x71.2.2.2] :: OwnS 3 1 v30 (y32.map cI) :: SS 22 3 1 cI v33 hs34 (y36) :: OwnS 28 1 v37 (y39.map cI) :: SS 22 3 1 cI v14 hs130 (y129) :: Bx b10 63 [v37, v6] :: SS 22 3 1 cI v6 hs133 (y132) :: Bx b3 63 [.slice none 0 0, .slice none 0 0] :: L) a w) ?_ ?_ | refine TC.cutX (fun a w => Mid 196 B [(0, I a0), (4, .pointer (some ⟨b3, 0, none⟩)), (5, .pointer (some ⟨b10, 0, none⟩)), (6, v30), (7, v33), (8, v14), (10, .pointer (some ⟨b73, 0, none⟩)), (11, I 0), (12, I x150), (13, I x142), (22, h1), (23, I (a1.length : Int)), (24, I x44)] (Bx b73 106 [I x71.1, I x71.2.1, I x71.2.2.1, I x71.2.2.2] :: OwnS 3 1 v30 (y32.map cI) :: SS 22 3 1 cI v33 hs34 (y36) :: OwnS 28 1 v37 (y39.map cI) :: SS 22 3 1 cI v14 hs130 (y129) :: Bx b10 63 [v37, v6] :: SS 22 3 1 cI v6 hs133 (y132) :: Bx b3 63 [.slice none 0 0, .slice none 0 0] :: L) a w) ?_ ?_
                          · refine TC.block ?_
                            refine TC.k ?_
                            refine TC.region ?_
                            refine TO.s rfl rfl rfl (StepS.move rfl) ?_
                            refine TO.s rfl rfl rfl (StepS.fld rfl kfieldB_106_2_2_true) ?_
                            refine TO.s rfl rfl rfl (StepS.ldB rfl (Ent.at 0 rfl) kscalB_3_true rfl) ?_
                            obtain ⟨x152, hx153, hj151⟩ := bind_some hj151
                            refine TO.s rfl rfl rfl (StepS.idxRR rfl rfl (SS.rr (Ent.at 4 rfl)) ksliceB_50_22_1_true hx153) ?_
                            refine TO.s rfl rfl rfl (StepS.ldRR rfl (SS.rr (Ent.at 4 rfl)) kscalB_22_true hx153) ?_
                            refine TO.s rfl rfl rfl (StepS.move rfl) ?_
                            obtain ⟨r155, hc156, hj151⟩ := bind_some hj151
                            refine TO.q rfl rfl rfl (StepQ.call kcallB_66_true rfl rfl (fun _ st => C66 (RR.row (SS.rr (Ent.at 4 rfl)) hx153) hc156 st)) ?_
                            refine TO.s rfl rfl rfl (StepS.move rfl) ?_
                            obtain ⟨b158, hj159, hj151⟩ := bind_some hj151
                            refine TO.mid1 10 148 (.bool b158) ?_ ?_
                            · refine bcase (r155) (fun hb157 => ?_) (fun hb157 => ?_)
                              · replace hj159 := cond_t hb157 hj159
                                refine TO.sw rfl rfl rfl hb157 rfl rfl (StepS.fld rfl kfieldB_63_1_1_true) ?_
                                refine TO.sw rfl rfl rfl hb157 rfl rfl (StepS.ldB rfl (Ent.at 5 rfl) kscalB_50_true rfl) ?_
                                refine TO.sw rfl rfl rfl hb157 rfl rfl (StepS.fld rfl kfieldB_106_2_2_true) ?_
                                refine TO.sw rfl rfl rfl hb157 rfl rfl (StepS.ldB rfl (Ent.at 0 rfl) kscalB_3_true rfl) ?_
                                obtain ⟨x160, hx161, hj159⟩ := bind_some hj159
                                refine TO.sw rfl rfl rfl hb157 rfl rfl (StepS.idxRR rfl rfl (SS.rr (Ent.at 6 rfl)) ksliceB_50_22_1_true hx161) ?_
                                refine TO.sw rfl rfl rfl hb157 rfl rfl (StepS.ldRR rfl (SS.rr (Ent.at 6 rfl)) kscalB_22_true hx161) ?_
                                refine TO.sw rfl rfl rfl hb157 rfl rfl (StepS.move rfl) ?_
                                obtain ⟨r163, hc164, hj159⟩ := bind_some hj159
                                refine TO.qw rfl rfl rfl hb157 rfl rfl (StepQ.call kcallB_66_true rfl rfl (fun _ st => C66 (RR.row (SS.rr (Ent.at 6 rfl)) hx161) hc164 st)) ?_
                                refine TO.sw rfl rfl rfl hb157 rfl rfl (StepS.not rfl) ?_
                                cases hj159
                                refine TO.s rfl rfl rfl (StepS.pickT rfl hb157 rfl) ?_
                                exact TO.up1 10 0 rfl rfl rfl rfl
                              · replace hj159 := cond_f hb157 hj159
                                cases hj159
                                refine TO.skip rfl rfl rfl (skipF hb157) rfl rfl ?_
                                refine TO.skip rfl rfl rfl (skipF hb157) rfl rfl ?_
                                refine TO.skip rfl rfl rfl (skipF hb157) rfl rfl ?_
                                refine TO.skip rfl rfl rfl (skipF hb157) rfl rfl ?_
                                refine TO.skip rfl rfl rfl (skipF hb157) rfl rfl ?_
                                refine TO.skip rfl rfl rfl (skipF hb157) rfl rfl ?_
                                refine TO.skip rfl rfl rfl (skipF hb157) rfl rfl ?_
                                refine TO.skip rfl rfl rfl (skipF hb157) rfl rfl ?_
                                refine TO.skip rfl rfl rfl (skipF hb157) rfl rfl ?_
                                refine TO.s rfl rfl rfl (StepS.pickF rfl hb157 rfl) ?_
                                exact TO.up1 10 0 rfl rfl rfl rfl
                            refine TO.s rfl rfl rfl (StepS.assign rfl) ?_
                            refine TO.code ?_
                            refine TC.k ?_
                            refine TC.k ?_
                            refine TC.region ?_
                            refine TO.s rfl rfl rfl (StepS.move rfl) ?_
                            refine TO.s rfl rfl rfl (StepS.move rfl) ?_
                            obtain ⟨x165, hx166, hj151⟩ := bind_some hj151
                            refine TO.s rfl rfl rfl (StepS.idxRR rfl rfl (SS.rr (Ent.at 2 rfl)) ksliceB_50_22_1_true hx166) ?_
                            refine TO.s rfl rfl rfl (StepS.ldRR rfl (SS.rr (Ent.at 2 rfl)) kscalB_22_true hx166) ?_
                            refine TO.s rfl rfl rfl (StepS.lenm rfl (RR.row (SS.rr (Ent.at 2 rfl)) hx166) ksliceB_22_3_1_true rfl) ?_
                            refine TO.s rfl rfl rfl (StepS.move rfl) ?_
                            refine TO.code ?_
                            obtain ⟨o173, hw174, hj151⟩ := bind_some hj151
                            refine TC.loop hw174 (fun (b168, x169) => fun a w => Mid 196 B [(0, I a0), (4, .pointer (some ⟨b3, 0, none⟩)), (5, .pointer (some ⟨b10, 0, none⟩)), (6, v30), (7, v33), (8, v14), (10, .pointer (some ⟨b73, 0, none⟩)), (11, I 0), (12, I x141), (13, I x142), (14, .bool b168), (22, h1), (23, I (a1.length : Int)), (24, I x44), (152, (rowv hs34 x142.toNat)), (153, I (x165.length : Int)), (154, I x169)] (Bx b73 106 [I x71.1, I x71.2.1, I x71.2.2.1, I x71.2.2.2] :: OwnS 3 1 v30 (y32.map cI) :: SS 22 3 1 cI v33 hs34 (y36) :: OwnS 28 1 v37 (y39.map cI) :: SS 22 3 1 cI v14 hs130 (y129) :: Bx b10 63 [v37, v6] :: SS 22 3 1 cI v6 hs133 (y132) :: Bx b3 63 [.slice none 0 0, .slice none 0 0] :: L) a w) (fun b172 => fun a w => Mid 196 B [(0, I a0), (4, .pointer (some ⟨b3, 0, none⟩)), (5, .pointer (some ⟨b10, 0, none⟩)), (6, v30), (7, v33), (8, v14), (10, .pointer (some ⟨b73, 0, none⟩)), (11, I 0), (12, I x141), (13, I x142), (14, .bool b172), (22, h1), (23, I (a1.length : Int)), (24, I x44)] (Bx b73 106 [I x71.1, I x71.2.1, I x71.2.2.1, I x71.2.2.2] :: OwnS 3 1 v30 (y32.map cI) :: SS 22 3 1 cI v33 hs34 (y36) :: OwnS 28 1 v37 (y39.map cI) :: SS 22 3 1 cI v14 hs130 (y129) :: Bx b10 63 [v37, v6] :: SS 22 3 1 cI v6 hs133 (y132) :: Bx b3 63 [.slice none 0 0, .slice none 0 0] :: L) a w) (fun (_ : Unit) _ _ => False) ?_ ?_ ?_ ?_
                            · rintro ⟨b168, x169⟩ o173r hb175 a w ⟨he, hs⟩
                              dsimp only [F32_L3] at hb175
                              refine TC.use ?_ he hs
                              refine TC.k ?_
                              refine TC.region ?_
                              refine TO.s rfl rfl rfl (StepS.cmp rfl rfl rfl) ?_
                              refine TO.code ?_
                              refine TC.k ?_
                              refine TC.cond rfl (fun hc176 => ?_) (fun hc176 => ?_)
                              · replace hb175 := cond_t hc176 hb175
                                refine TC.skipk ?_
                                refine TC.k ?_
                                refine TC.block ?_
                                refine TC.k ?_
                                refine TC.region ?_
                                obtain ⟨x177, hx178, hb175⟩ := bind_some hb175
                                refine TO.s rfl rfl rfl (StepS.idx rfl rfl (RR.row (SS.rr (Ent.at 2 rfl)) hx166) ksliceB_22_3_1_true (idx_spec hx178).1 (idxm_lt hx178)) ?_
                                refine TO.s rfl rfl rfl (StepS.ld0 rfl (RR.row (SS.rr (Ent.at 2 rfl)) hx166) kscalB_3_true rfl (idxm hx178) rfl) ?_
                                refine TO.s rfl rfl rfl (StepS.assign rfl) ?_
                                refine TO.code ?_
                                refine TC.region ?_
                                refine TO.s rfl rfl rfl (StepS.move rfl) ?_
                                refine TO.s rfl rfl rfl (StepS.move rfl) ?_
                                obtain ⟨b180, hj181, hb175⟩ := bind_some hb175
                                refine TO.mid1 9 168 (.bool b180) ?_ ?_
                                · refine bcase (b168) (fun hb179 => ?_) (fun hb179 => ?_)
                                  · replace hj181 := cond_t hb179 hj181
                                    refine TO.sw rfl rfl rfl hb179 rfl rfl (StepS.fld rfl kfieldB_63_1_1_true) ?_
                                    refine TO.sw rfl rfl rfl hb179 rfl rfl (StepS.ldB rfl (Ent.at 5 rfl) kscalB_50_true rfl) ?_
                                    refine TO.sw rfl rfl rfl hb179 rfl rfl (StepS.fld rfl kfieldB_106_2_2_true) ?_
                                    refine TO.sw rfl rfl rfl hb179 rfl rfl (StepS.ldB rfl (Ent.at 0 rfl) kscalB_3_true rfl) ?_
                                    obtain ⟨x182, hx183, hj181⟩ := bind_some hj181
                                    refine TO.sw rfl rfl rfl hb179 rfl rfl (StepS.idxRR rfl rfl (SS.rr (Ent.at 6 rfl)) ksliceB_50_22_1_true hx183) ?_
                                    refine TO.sw rfl rfl rfl hb179 rfl rfl (StepS.ldRR rfl (SS.rr (Ent.at 6 rfl)) kscalB_22_true hx183) ?_
                                    refine TO.sw rfl rfl rfl hb179 rfl rfl (StepS.move rfl) ?_
                                    obtain ⟨r185, hc186, hj181⟩ := bind_some hj181
                                    refine TO.qw rfl rfl rfl hb179 rfl rfl (StepQ.call kcallB_66_true rfl rfl (fun _ st => C66 (RR.row (SS.rr (Ent.at 6 rfl)) hx183) hc186 st)) ?_
                                    cases hj181
                                    refine TO.s rfl rfl rfl (StepS.pickT rfl hb179 rfl) ?_
                                    exact TO.up1 9 0 rfl rfl rfl rfl
                                  · replace hj181 := cond_f hb179 hj181
                                    cases hj181
                                    refine TO.skip rfl rfl rfl (skipF hb179) rfl rfl ?_
                                    refine TO.skip rfl rfl rfl (skipF hb179) rfl rfl ?_
                                    refine TO.skip rfl rfl rfl (skipF hb179) rfl rfl ?_
                                    refine TO.skip rfl rfl rfl (skipF hb179) rfl rfl ?_
                                    refine TO.skip rfl rfl rfl (skipF hb179) rfl rfl ?_
                                    refine TO.skip rfl rfl rfl (skipF hb179) rfl rfl ?_
                                    refine TO.skip rfl rfl rfl (skipF hb179) rfl rfl ?_
                                    refine TO.skip rfl rfl rfl (skipF hb179) rfl rfl ?_
                                    refine TO.s rfl rfl rfl (StepS.pickF rfl hb179 rfl) ?_
                                    exact TO.up1 9 0 rfl rfl rfl rfl
                                refine TO.s rfl rfl rfl (StepS.assign rfl) ?_
                                refine TO.code ?_
                                refine TC.region ?_
                                refine TO.s rfl rfl rfl (StepS.ari rfl rfl rfl) ?_
                                refine TO.s rfl rfl rfl (StepS.move rfl) ?_
                                cases hb175
                                refine TO.nil fun a w e s => ?_
                                exact ⟨e.sub (lk_of_allIn ⟨rfl, rfl, rfl, rfl, rfl, rfl, rfl, rfl, rfl, rfl, rfl, rfl, rfl, rfl, rfl, rfl, rfl, trivial⟩), s⟩
                              · replace hb175 := cond_f hc176 hb175
                                cases hb175
                                refine TC.exit rfl fun a w e s => ?_
                                exact ⟨e.sub (lk_of_allIn ⟨rfl, rfl, rfl, rfl, rfl, rfl, rfl, rfl, rfl, rfl, rfl, rfl, rfl, rfl, trivial⟩), s⟩
                            · exact fun a w e s => ⟨e.sub (lk_of_allIn ⟨rfl, rfl, rfl, rfl, rfl, rfl, rfl, rfl, rfl, rfl, rfl, rfl, rfl, rfl, rfl, rfl, rfl, trivial⟩), s⟩
                            · rintro b172 rfl a w ⟨he, hs⟩
                              dsimp only [Ctl.on] at hj151
                              refine TC.use ?_ he hs
                              refine TC.k ?_
                              refine TC.region ?_
                              refine TO.s rfl rfl rfl (StepS.move rfl) ?_
                              refine TO.code ?_
                              refine TC.cond rfl (fun hc187 => ?_) (fun hc187 => ?_)
                              · replace hj151 := cond_t hc187 hj151
                                refine TC.region ?_
                                refine TO.s rfl rfl rfl (StepS.move rfl) ?_
                                refine TO.s rfl rfl rfl (StepS.assign rfl) ?_
                                cases hj151
                                refine TO.nil fun a w e s => ?_
                                exact ⟨e.sub (lk_of_allIn ⟨rfl, rfl, rfl, rfl, rfl, rfl, rfl, rfl, rfl, rfl, rfl, rfl, rfl, trivial⟩), s⟩
                              · replace hj151 := cond_f hc187 hj151
                                cases hj151
                                refine TC.skip fun a w e s => ?_
                                exact ⟨e.sub (lk_of_allIn ⟨rfl, rfl, rfl, rfl, rfl, rfl, rfl, rfl, rfl, rfl, rfl, rfl, rfl, trivial⟩), s⟩
                            · rintro r rfl
                              exact fun a w h => h.elim
                          · intro a w ⟨he, hs⟩
                            refine TC.use ?_ he hs
                            refine TC.region ?_
                            refine TO.s rfl rfl rfl (StepS.move rfl) ?_
                            refine TO.s rfl rfl rfl (StepS.ari rfl rfl rfl) ?_
                            refine TO.s rfl rfl rfl (StepS.assign rfl) ?_
                            cases hb148
                            refine TO.nil fun a w e s => ?_
                            exact ⟨e.sub (lk_of_allIn ⟨rfl, rfl, rfl, rfl, rfl, rfl, rfl, rfl, rfl, rfl, rfl, rfl, rfl, trivial⟩), s⟩
                        · replace hb148 := cond_f hc149 hb148
                          cases hb148
                          refine TC.exit rfl fun a w e s => ?_
                          exact ⟨e.sub (lk_of_allIn ⟨rfl, rfl, rfl, rfl, rfl, rfl, rfl, rfl, rfl, rfl, rfl, rfl, trivial⟩), s⟩
                      · exact fun a w e s => ⟨e.sub (lk_of_allIn ⟨rfl, rfl, rfl, rfl, rfl, rfl, rfl, rfl, rfl, rfl, rfl, rfl, rfl, trivial⟩), s⟩
                      · rintro x145 rfl a w ⟨he, hs⟩
                        dsimp only [Ctl.on] at hb140
                        refine TC.use ?_ he hs
                        refine TC.k ?_
                        refine TC.k ?_
                        refine TC.region ?_
                        refine TO.s rfl rfl rfl (StepS.move rfl) ?_
                        refine TO.s rfl rfl rfl (StepS.cmp rfl rfl rfl) ?_
                        refine TO.code ?_
                        refine TC.cond rfl (fun hc188 => ?_) (fun hc188 => ?_)
                        · replace hb140 := cond_t hc188 hb140
                          cases hb140
                          refine TC.exit rfl fun a w e s => ?_
                          exact ⟨hs133, e.sub (lk_of_allIn ⟨rfl, rfl, rfl, rfl, rfl, rfl, rfl, rfl, rfl, rfl, trivial⟩), s⟩
                        · replace hb140 := cond_f hc188 hb140
                          refine TC.skipk ?_
                          obtain ⟨y190, hj192, hb140⟩ := bind_some hb140
                          first | refine TC.cutM (fun a w => ∃ hs191 : List Value, Mid 196 B [(0, I a0), (4, .pointer (some ⟨b3, 0, none⟩)), (5, .pointer (some ⟨b10, 0, none⟩)), (6, v30), (7, v33), (8, v14), (10, .pointer (some ⟨b73, 0, none⟩)), (11, I 0), (22, h1), (23, I (a1.length : Int)), (24, I x44)] (Bx b73 106 [I x71.1, I x71.2.1, I x71.2.2.1, I x71.2.2.2] :: OwnS 3 1 v30 (y32.map cI) :: SS 22 3 1 cI v33 hs34 (y36) :: OwnS 28 1 v37 (y39.map cI) :: SS 22 3 1 cI v14 hs130 (y129) :: Bx b10 63 [v37, v6] :: SS 22 3 1 cI v6 hs191 (y190) :: Bx b3 63 [.slice none 0 0, .slice none 0 0] :: L) a w) ?_ ?_ | refine TC.cutX (fun a w => ∃ hs191 : List Value, Mid 196 B [(0, I a0), (4, .pointer (some ⟨b3, 0, none⟩)), (5, .pointer (some ⟨b10, 0, none⟩)), (6, v30), (7, v33), (8, v14), (10, .pointer (some ⟨b73, 0, none⟩)), (11, I 0), (22, h1), (23, I (a1.length : Int)), (24, I x44)] (Bx b73 106 [I x71.1, I x71.2.1, I x71.2.2.1, I x71.2.2.2] :: OwnS 3 1 v30 (y32.map cI) :: SS 22 3 1 cI v33 hs34 (y36) :: OwnS 28 1 v37 (y39.map cI) :: SS 22 3 1 cI v14 hs130 (y129) :: Bx b10 63 [v37, v6] :: SS 22 3 1 cI v6 hs191 (y190) :: Bx b3 63 [.slice none 0 0, .slice none 0 0] :: L) a w) ?_ ?_
                          · obtain ⟨xq189_8_1, hxq189_8_2, hj192⟩ := bind_some hj192
                            obtain ⟨yq189_12_2, hkq189_12_3, hj192⟩ := bind_some hj192
                            obtain ⟨xq189_13_1, hxq189_13_2, hj192⟩ := bind_some hj192
                            refine TC.region_any (Bx b73 106 [I x71.1, I x71.2.1, I x71.2.2.1, I x71.2.2.2] :: OwnS 3 1 v30 (y32.map cI) :: SS 22 3 1 cI v33 hs34 (y36) :: OwnS 28 1 v37 (y39.map cI) :: SS 22 3 1 cI v14 hs130 (y129) :: Bx b10 63 [v37, v6] :: Bx b3 63 [.slice none 0 0, .slice none 0 0] :: L) 14 15 kfollows_mixedOrders_true rfl ?_
                            refine TA.takeW 0 rfl rfl rfl rfl (StepS.fld rfl kfieldB_63_1_1_true) (by kernel_rfl) (by kernel_rfl) (by kernel_rfl) rfl (.inr (fun _ s => Sat.by [7, 6, 6, 6, 6, 6, 6] 7 1 (by kernel_rfl) s)) ?_
                            refine TA.take 1 rfl rfl rfl rfl (StepS.ldB rfl (Ent.at 5 rfl) kscalB_50_true rfl) (by kernel_rfl) (by kernel_rfl) (by kernel_rfl) (by kernel_rfl) (by kernel_rfl) (fun _ s => Sat.by [7, 6, 6, 6, 6, 6, 6] 7 1 (by kernel_rfl) s) ?_
                            refine TA.takeW 2 rfl rfl rfl rfl (StepS.fld rfl kfieldB_106_2_2_true) (by kernel_rfl) (by kernel_rfl) (by kernel_rfl) rfl (.inr (fun _ s => Sat.by [7, 6, 6, 6, 6, 6, 6] 7 1 (by kernel_rfl) s)) ?_
                            refine TA.take 3 rfl rfl rfl rfl (StepS.ldB rfl (Ent.at 0 rfl) kscalB_3_true rfl) (by kernel_rfl) (by kernel_rfl) (by kernel_rfl) (by kernel_rfl) (by kernel_rfl) (fun _ s => Sat.by [7, 6, 6, 6, 6, 6, 6] 7 1 (by kernel_rfl) s) ?_
                            refine TA.takeW 4 rfl rfl rfl rfl (StepS.fld rfl kfieldB_63_1_1_true) (by kernel_rfl) (by kernel_rfl) (by kernel_rfl) rfl (.inr (fun _ s => Sat.by [7, 6, 6, 6, 6, 6, 6] 7 1 (by kernel_rfl) s)) ?_
                            refine TA.take 5 rfl rfl rfl rfl (StepS.ldB rfl (Ent.at 5 rfl) kscalB_50_true rfl) (by kernel_rfl) (by kernel_rfl) (by kernel_rfl) (by kernel_rfl) (by kernel_rfl) (fun _ s => Sat.by [7, 6, 6, 6, 6, 6, 6] 7 1 (by kernel_rfl) s) ?_
                            refine TA.takeW 6 rfl rfl rfl rfl (StepS.fld rfl kfieldB_106_2_2_true) (by kernel_rfl) (by kernel_rfl) (by kernel_rfl) rfl (.inr (fun _ s => Sat.by [7, 6, 6, 6, 6, 6, 6] 7 1 (by kernel_rfl) s)) ?_
                            refine TA.take 7 rfl rfl rfl rfl (StepS.ldB rfl (Ent.at 0 rfl) kscalB_3_true rfl) (by kernel_rfl) (by kernel_rfl) (by kernel_rfl) (by kernel_rfl) (by kernel_rfl) (fun _ s => Sat.by [7, 6, 6, 6, 6, 6, 6] 7 1 (by kernel_rfl) s) ?_
                            refine TA.takeW 10 rfl rfl rfl rfl (StepS.move rfl) (by kernel_rfl) (by kernel_rfl) (by kernel_rfl) rfl (.inr (fun _ s => Sat.by [7, 6, 6, 6, 6, 6, 6] 7 1 (by kernel_rfl) s)) ?_
                            refine TA.all2 (i := 8) (j := 11) (by kernel_rfl) ?_ ?_
                            · refine TB.of rfl ?_
                              refine TO.s rfl rfl rfl (StepS.idxRR rfl rfl (SS.rr (Ent.at 6 rfl)) ksliceB_50_22_1_true hxq189_8_2) ?_
                              refine TA.back (.inr (fun _ s => Sat.by [7, 6, 6, 6, 6, 6, 6] 7 1 (by kernel_rfl) s)) ?_
                              refine TA.asL (L' := (Bx b73 106 [I x71.1, I x71.2.1, I x71.2.2.1, I x71.2.2.2] :: OwnS 3 1 v30 (y32.map cI) :: SS 22 3 1 cI v33 hs34 (y36) :: OwnS 28 1 v37 (y39.map cI) :: SS 22 3 1 cI v14 hs130 (y129) :: Bx b10 63 [v37, v6] :: SS 22 3 1 cI v6 hs133 (y132) :: Bx b3 63 [.slice none 0 0, .slice none 0 0] :: L)) (listed' := #[true, true, true, true, true, true, true, true, true, false, true, false, false, false, false]) (by kernel_rfl) (by kernel_rfl) ?_
                              refine TA.all2 (i := 9) (j := 11) (by kernel_rfl) ?_ ?_
                              · refine TB.of rfl ?_
                                refine TO.s rfl rfl rfl (StepS.ldRR rfl (SS.rr (Ent.at 6 rfl)) kscalB_22_true hxq189_8_2) ?_
                                refine TA.back (.inr (fun _ s => Sat.by [7, 6, 6, 6, 6, 6, 6] 7 1 (by kernel_rfl) s)) ?_
                                refine TA.asL (L' := (Bx b73 106 [I x71.1, I x71.2.1, I x71.2.2.1, I x71.2.2.2] :: OwnS 3 1 v30 (y32.map cI) :: SS 22 3 1 cI v33 hs34 (y36) :: OwnS 28 1 v37 (y39.map cI) :: SS 22 3 1 cI v14 hs130 (y129) :: Bx b10 63 [v37, v6] :: SS 22 3 1 cI v6 hs133 (y132) :: Bx b3 63 [.slice none 0 0, .slice none 0 0] :: L)) (listed' := #[true, true, true, true, true, true, true, true, true, true, true, false, false, false, false]) (by kernel_rfl) (by kernel_rfl) ?_
                                refine TA.all1 (i := 11) (by kernel_rfl) ?_
                                refine TB.of rfl ?_
                                refine TO.litS (f := cI) ([x145] : List Int) kelemB_22_3_1_8_true kinfo_3_bind_zero_some_I_0 rfl rfl (fun _ => rfl) rfl rfl (by kernel_rfl) rfl fun vq189_11_1 => ?_
                                refine TA.back (.inr (fun _ s => Sat.by [8, 7, 7, 7, 7, 7, 7] 7 2 (by kernel_rfl) s)) ?_
                                refine TA.asL (L' := (OwnS 3 1 vq189_11_1 (([x145] : List Int).map cI) :: Bx b73 106 [I x71.1, I x71.2.1, I x71.2.2.1, I x71.2.2.2] :: OwnS 3 1 v30 (y32.map cI) :: SS 22 3 1 cI v33 hs34 (y36) :: OwnS 28 1 v37 (y39.map cI) :: SS 22 3 1 cI v14 hs130 (y129) :: Bx b10 63 [v37, v6] :: SS 22 3 1 cI v6 hs133 (y132) :: Bx b3 63 [.slice none 0 0, .slice none 0 0] :: L)) (listed' := #[true, true, true, true, true, true, true, true, true, true, true, true, false, false, false]) (by kernel_rfl) (by kernel_rfl) ?_
                                refine TA.all1 (i := 12) (by kernel_rfl) ?_
                                refine TB.of rfl ?_
                                refine TO.ghost (fun _ s => Sat.front 7 rfl s) ?_
                                refine TO.ghost (fun _ s => Sat.openRow hxq189_8_2 s) ?_
                                refine TO.app (k := 0) (f := cI) kelemB_22_3_1_8_true (by decide) rfl rfl rfl (OwnS.rd (Ent.at 2 rfl)) hkq189_12_3 (fun x c hc => by simp [Value.oneCell'] at hc ⊢; first | (obtain rfl := hc; rfl) | (rcases hc with rfl <;> rfl)) rfl rfl fun vq189_12_4 => ?_
                                refine TA.back (.inr (fun _ s => Sat.by [9, 9, 9, 9, 9, 9, 9] 7 3 (by kernel_rfl) s)) ?_
                                refine TA.asL (L' := (OwnS 3 1 vq189_12_4 (yq189_12_2.map cI) :: SSh 22 3 1 cI v6 hs133 (y132) x71.2.2.1.toNat :: OwnS 3 1 vq189_11_1 (([x145] : List Int).map cI) :: Bx b73 106 [I x71.1, I x71.2.1, I x71.2.2.1, I x71.2.2.2] :: OwnS 3 1 v30 (y32.map cI) :: SS 22 3 1 cI v33 hs34 (y36) :: OwnS 28 1 v37 (y39.map cI) :: SS 22 3 1 cI v14 hs130 (y129) :: Bx b10 63 [v37, v6] :: Bx b3 63 [.slice none 0 0, .slice none 0 0] :: L)) (listed' := #[true, true, true, true, true, true, true, true, true, true, true, true, true, false, false]) (by kernel_rfl) (by kernel_rfl) ?_
                                refine TA.all1 (i := 13) (by kernel_rfl) ?_
                                refine TB.of rfl ?_
                                refine TO.s rfl rfl rfl (StepS.idxRH rfl rfl (Ent.at 1 rfl) ksliceB_50_22_1_true hxq189_13_2) ?_
                                refine TA.back (.inr (fun _ s => Sat.by [9, 9, 9, 9, 9, 9, 9] 7 3 (by kernel_rfl) s)) ?_
                                refine TA.asL (L' := (OwnS 3 1 vq189_12_4 (yq189_12_2.map cI) :: SSh 22 3 1 cI v6 hs133 (y132) x71.2.2.1.toNat :: OwnS 3 1 vq189_11_1 (([x145] : List Int).map cI) :: Bx b73 106 [I x71.1, I x71.2.1, I x71.2.2.1, I x71.2.2.2] :: OwnS 3 1 v30 (y32.map cI) :: SS 22 3 1 cI v33 hs34 (y36) :: OwnS 28 1 v37 (y39.map cI) :: SS 22 3 1 cI v14 hs130 (y129) :: Bx b10 63 [v37, v6] :: Bx b3 63 [.slice none 0 0, .slice none 0 0] :: L)) (listed' := #[true, true, true, true, true, true, true, true, true, true, true, true, true, true, false]) (by kernel_rfl) (by kernel_rfl) ?_
                                refine TA.all1 (i := 14) (by kernel_rfl) ?_
                                refine TB.of rfl ?_
                                refine TO.ghost (fun _ s => Sat.front 1 rfl s) ?_
                                refine TO.stRowH (xs := yq189_12_2) rfl rfl hxq189_13_2 ksizeB_22_1_true ?_
                                refine TA.back (.inl (by kernel_rfl)) ?_
                                refine TA.asL (L' := (SS 22 3 1 cI v6 (hs133.set x71.2.2.1.toNat vq189_12_4) (y132.set x71.2.2.1.toNat yq189_12_2) :: OwnS 3 1 vq189_11_1 (([x145] : List Int).map cI) :: Bx b73 106 [I x71.1, I x71.2.1, I x71.2.2.1, I x71.2.2.2] :: OwnS 3 1 v30 (y32.map cI) :: SS 22 3 1 cI v33 hs34 (y36) :: OwnS 28 1 v37 (y39.map cI) :: SS 22 3 1 cI v14 hs130 (y129) :: Bx b10 63 [v37, v6] :: Bx b3 63 [.slice none 0 0, .slice none 0 0] :: L)) (listed' := #[true, true, true, true, true, true, true, true, true, true, true, true, true, true, true]) (by kernel_rfl) (by kernel_rfl) ?_
                                cases hj192
                                refine TA.nil (by kernel_rfl) fun a w e s => ?_
                                exact ⟨(hs133.set x71.2.2.1.toNat vq189_12_4), e.sub (lk_of_allIn ⟨rfl, rfl, rfl, rfl, rfl, rfl, rfl, rfl, rfl, rfl, rfl, trivial⟩), s.mono fun _ s => (by exact Sat.by [8, 1, 8, 8, 8, 8, 8, 8] 8 1 (by kernel_rfl) s)⟩
                              · refine TB.of rfl ?_
                                refine TO.litS (f := cI) ([x145] : List Int) kelemB_22_3_1_8_true kinfo_3_bind_zero_some_I_0 rfl rfl (fun _ => rfl) rfl rfl (by kernel_rfl) rfl fun vq189_11_1 => ?_
                                refine TA.back (.inr (fun _ s => Sat.by [8, 7, 7, 7, 7, 7, 7] 7 2 (by kernel_rfl) s)) ?_
                                refine TA.asL (L' := (OwnS 3 1 vq189_11_1 (([x145] : List Int).map cI) :: Bx b73 106 [I x71.1, I x71.2.1, I x71.2.2.1, I x71.2.2.2] :: OwnS 3 1 v30 (y32.map cI) :: SS 22 3 1 cI v33 hs34 (y36) :: OwnS 28 1 v37 (y39.map cI) :: SS 22 3 1 cI v14 hs130 (y129) :: Bx b10 63 [v37, v6] :: SS 22 3 1 cI v6 hs133 (y132) :: Bx b3 63 [.slice none 0 0, .slice none 0 0] :: L)) (listed' := #[true, true, true, true, true, true, true, true, true, false, true, true, false, false, false]) (by kernel_rfl) (by kernel_rfl) ?_
                                refine TA.all1 (i := 9) (by kernel_rfl) ?_
                                refine TB.of rfl ?_
                                refine TO.s rfl rfl rfl (StepS.ldRR rfl (SS.rr (Ent.at 7 rfl)) kscalB_22_true hxq189_8_2) ?_
                                refine TA.back (.inr (fun _ s => Sat.by [8, 7, 7, 7, 7, 7, 7] 7 2 (by kernel_rfl) s)) ?_
                                refine TA.asL (L' := (OwnS 3 1 vq189_11_1 (([x145] : List Int).map cI) :: Bx b73 106 [I x71.1, I x71.2.1, I x71.2.2.1, I x71.2.2.2] :: OwnS 3 1 v30 (y32.map cI) :: SS 22 3 1 cI v33 hs34 (y36) :: OwnS 28 1 v37 (y39.map cI) :: SS 22 3 1 cI v14 hs130 (y129) :: Bx b10 63 [v37, v6] :: SS 22 3 1 cI v6 hs133 (y132) :: Bx b3 63 [.slice none 0 0, .slice none 0 0] :: L)) (listed' := #[true, true, true, true, true, true, true, true, true, true, true, true, false, false, false]) (by kernel_rfl) (by kernel_rfl) ?_
                                refine TA.all1 (i := 12) (by kernel_rfl) ?_
                                refine TB.of rfl ?_
                                refine TO.ghost (fun _ s => Sat.front 7 rfl s) ?_
                                refine TO.ghost (fun _ s => Sat.openRow hxq189_8_2 s) ?_
                                refine TO.app (k := 0) (f := cI) kelemB_22_3_1_8_true (by decide) rfl rfl rfl (OwnS.rd (Ent.at 2 rfl)) hkq189_12_3 (fun x c hc => by simp [Value.oneCell'] at hc ⊢; first | (obtain rfl := hc; rfl) | (rcases hc with rfl <;> rfl)) rfl rfl fun vq189_12_4 => ?_
                                refine TA.back (.inr (fun _ s => Sat.by [9, 9, 9, 9, 9, 9, 9] 7 3 (by kernel_rfl) s)) ?_
                                refine TA.asL (L' := (OwnS 3 1 vq189_12_4 (yq189_12_2.map cI) :: SSh 22 3 1 cI v6 hs133 (y132) x71.2.2.1.toNat :: OwnS 3 1 vq189_11_1 (([x145] : List Int).map cI) :: Bx b73 106 [I x71.1, I x71.2.1, I x71.2.2.1, I x71.2.2.2] :: OwnS 3 1 v30 (y32.map cI) :: SS 22 3 1 cI v33 hs34 (y36) :: OwnS 28 1 v37 (y39.map cI) :: SS 22 3 1 cI v14 hs130 (y129) :: Bx b10 63 [v37, v6] :: Bx b3 63 [.slice none 0 0, .slice none 0 0] :: L)) (listed' := #[true, true, true, true, true, true, true, true, true, true, true, true, true, false, false]) (by kernel_rfl) (by kernel_rfl) ?_
                                refine TA.all1 (i := 13) (by kernel_rfl) ?_
                                refine TB.of rfl ?_
                                refine TO.s rfl rfl rfl (StepS.idxRH rfl rfl (Ent.at 1 rfl) ksliceB_50_22_1_true hxq189_13_2) ?_
                                refine TA.back (.inr (fun _ s => Sat.by [9, 9, 9, 9, 9, 9, 9] 7 3 (by kernel_rfl) s)) ?_
                                refine TA.asL (L' := (OwnS 3 1 vq189_12_4 (yq189_12_2.map cI) :: SSh 22 3 1 cI v6 hs133 (y132) x71.2.2.1.toNat :: OwnS 3 1 vq189_11_1 (([x145] : List Int).map cI) :: Bx b73 106 [I x71.1, I x71.2.1, I x71.2.2.1, I x71.2.2.2] :: OwnS 3 1 v30 (y32.map cI) :: SS 22 3 1 cI v33 hs34 (y36) :: OwnS 28 1 v37 (y39.map cI) :: SS 22 3 1 cI v14 hs130 (y129) :: Bx b10 63 [v37, v6] :: Bx b3 63 [.slice none 0 0, .slice none 0 0] :: L)) (listed' := #[true, true, true, true, true, true, true, true, true, true, true, true, true, true, false]) (by kernel_rfl) (by kernel_rfl) ?_
                                refine TA.all1 (i := 14) (by kernel_rfl) ?_
                                refine TB.of rfl ?_
                                refine TO.ghost (fun _ s => Sat.front 1 rfl s) ?_
                                refine TO.stRowH (xs := yq189_12_2) rfl rfl hxq189_13_2 ksizeB_22_1_true ?_
                                refine TA.back (.inl (by kernel_rfl)) ?_
                                refine TA.asL (L' := (SS 22 3 1 cI v6 (hs133.set x71.2.2.1.toNat vq189_12_4) (y132.set x71.2.2.1.toNat yq189_12_2) :: OwnS 3 1 vq189_11_1 (([x145] : List Int).map cI) :: Bx b73 106 [I x71.1, I x71.2.1, I x71.2.2.1, I x71.2.2.2] :: OwnS 3 1 v30 (y32.map cI) :: SS 22 3 1 cI v33 hs34 (y36) :: OwnS 28 1 v37 (y39.map cI) :: SS 22 3 1 cI v14 hs130 (y129) :: Bx b10 63 [v37, v6] :: Bx b3 63 [.slice none 0 0, .slice none 0 0] :: L)) (listed' := #[true, true, true, true, true, true, true, true, true, true, true, true, true, true, true]) (by kernel_rfl) (by kernel_rfl) ?_
                                cases hj192
                                refine TA.nil (by kernel_rfl) fun a w e s => ?_
                                exact ⟨(hs133.set x71.2.2.1.toNat vq189_12_4), e.sub (lk_of_allIn ⟨rfl, rfl, rfl, rfl, rfl, rfl, rfl, rfl, rfl, rfl, rfl, trivial⟩), s.mono fun _ s => (by exact Sat.by [8, 1, 8, 8, 8, 8, 8, 8] 8 1 (by kernel_rfl) s)⟩
                            · refine TB.of rfl ?_
                              refine TO.litS (f := cI) ([x145] : List Int) kelemB_22_3_1_8_true kinfo_3_bind_zero_some_I_0 rfl rfl (fun _ => rfl) rfl rfl (by kernel_rfl) rfl fun vq189_11_1 => ?_
                              refine TA.back (.inr (fun _ s => Sat.by [8, 7, 7, 7, 7, 7, 7] 7 2 (by kernel_rfl) s)) ?_
                              refine TA.asL (L' := (OwnS 3 1 vq189_11_1 (([x145] : List Int).map cI) :: Bx b73 106 [I x71.1, I x71.2.1, I x71.2.2.1, I x71.2.2.2] :: OwnS 3 1 v30 (y32.map cI) :: SS 22 3 1 cI v33 hs34 (y36) :: OwnS 28 1 v37 (y39.map cI) :: SS 22 3 1 cI v14 hs130 (y129) :: Bx b10 63 [v37, v6] :: SS 22 3 1 cI v6 hs133 (y132) :: Bx b3 63 [.slice none 0 0, .slice none 0 0] :: L)) (listed' := #[true, true, true, true, true, true, true, true, false, false, true, true, false, false, false]) (by kernel_rfl) (by kernel_rfl) ?_
                              refine TA.all1 (i := 8) (by kernel_rfl) ?_
                              refine TB.of rfl ?_
                              refine TO.s rfl rfl rfl (StepS.idxRR rfl rfl (SS.rr (Ent.at 7 rfl)) ksliceB_50_22_1_true hxq189_8_2) ?_
                              refine TA.back (.inr (fun _ s => Sat.by [8, 7, 7, 7, 7, 7, 7] 7 2 (by kernel_rfl) s)) ?_
                              refine TA.asL (L' := (OwnS 3 1 vq189_11_1 (([x145] : List Int).map cI) :: Bx b73 106 [I x71.1, I x71.2.1, I x71.2.2.1, I x71.2.2.2] :: OwnS 3 1 v30 (y32.map cI) :: SS 22 3 1 cI v33 hs34 (y36) :: OwnS 28 1 v37 (y39.map cI) :: SS 22 3 1 cI v14 hs130 (y129) :: Bx b10 63 [v37, v6] :: SS 22 3 1 cI v6 hs133 (y132) :: Bx b3 63 [.slice none 0 0, .slice none 0 0] :: L)) (listed' := #[true, true, true, true, true, true, true, true, true, false, true, true, false, false, false]) (by kernel_rfl) (by kernel_rfl) ?_
                              refine TA.all1 (i := 9) (by kernel_rfl) ?_
                              refine TB.of rfl ?_
                              refine TO.s rfl rfl rfl (StepS.ldRR rfl (SS.rr (Ent.at 7 rfl)) kscalB_22_true hxq189_8_2) ?_
                              refine TA.back (.inr (fun _ s => Sat.by [8, 7, 7, 7, 7, 7, 7] 7 2 (by kernel_rfl) s)) ?_
                              refine TA.asL (L' := (OwnS 3 1 vq189_11_1 (([x145] : List Int).map cI) :: Bx b73 106 [I x71.1, I x71.2.1, I x71.2.2.1, I x71.2.2.2] :: OwnS 3 1 v30 (y32.map cI) :: SS 22 3 1 cI v33 hs34 (y36) :: OwnS 28 1 v37 (y39.map cI) :: SS 22 3 1 cI v14 hs130 (y129) :: Bx b10 63 [v37, v6] :: SS 22 3 1 cI v6 hs133 (y132) :: Bx b3 63 [.slice none 0 0, .slice none 0 0] :: L)) (listed' := #[true, true, true, true, true, true, true, true, true, true, true, true, false, false, false]) (by kernel_rfl) (by kernel_rfl) ?_
                              refine TA.all1 (i := 12) (by kernel_rfl) ?_
                              refine TB.of rfl ?_
                              refine TO.ghost (fun _ s => Sat.front 7 rfl s) ?_
                              refine TO.ghost (fun _ s => Sat.openRow hxq189_8_2 s) ?_
                              refine TO.app (k := 0) (f := cI) kelemB_22_3_1_8_true (by decide) rfl rfl rfl (OwnS.rd (Ent.at 2 rfl)) hkq189_12_3 (fun x c hc => by simp [Value.oneCell'] at hc ⊢; first | (obtain rfl := hc; rfl) | (rcases hc with rfl <;> rfl)) rfl rfl fun vq189_12_4 => ?_
                              refine TA.back (.inr (fun _ s => Sat.by [9, 9, 9, 9, 9, 9, 9] 7 3 (by kernel_rfl) s)) ?_
                              refine TA.asL (L' := (OwnS 3 1 vq189_12_4 (yq189_12_2.map cI) :: SSh 22 3 1 cI v6 hs133 (y132) x71.2.2.1.toNat :: OwnS 3 1 vq189_11_1 (([x145] : List Int).map cI) :: Bx b73 106 [I x71.1, I x71.2.1, I x71.2.2.1, I x71.2.2.2] :: OwnS 3 1 v30 (y32.map cI) :: SS 22 3 1 cI v33 hs34 (y36) :: OwnS 28 1 v37 (y39.map cI) :: SS 22 3 1 cI v14 hs130 (y129) :: Bx b10 63 [v37, v6] :: Bx b3 63 [.slice none 0 0, .slice none 0 0] :: L)) (listed' := #[true, true, true, true, true, true, true, true, true, true, true, true, true, false, false]) (by kernel_rfl) (by kernel_rfl) ?_
                              refine TA.all1 (i := 13) (by kernel_rfl) ?_
                              refine TB.of rfl ?_
                              refine TO.s rfl rfl rfl (StepS.idxRH rfl rfl (Ent.at 1 rfl) ksliceB_50_22_1_true hxq189_13_2) ?_
                              refine TA.back (.inr (fun _ s => Sat.by [9, 9, 9, 9, 9, 9, 9] 7 3 (by kernel_rfl) s)) ?_
                              refine TA.asL (L' := (OwnS 3 1 vq189_12_4 (yq189_12_2.map cI) :: SSh 22 3 1 cI v6 hs133 (y132) x71.2.2.1.toNat :: OwnS 3 1 vq189_11_1 (([x145] : List Int).map cI) :: Bx b73 106 [I x71.1, I x71.2.1, I x71.2.2.1, I x71.2.2.2] :: OwnS 3 1 v30 (y32.map cI) :: SS 22 3 1 cI v33 hs34 (y36) :: OwnS 28 1 v37 (y39.map cI) :: SS 22 3 1 cI v14 hs130 (y129) :: Bx b10 63 [v37, v6] :: Bx b3 63 [.slice none 0 0, .slice none 0 0] :: L)) (listed' := #[true, true, true, true, true, true, true, true, true, true, true, true, true, true, false]) (by kernel_rfl) (by kernel_rfl) ?_
                              refine TA.all1 (i := 14) (by kernel_rfl) ?_
                              refine TB.of rfl ?_
                              refine TO.ghost (fun _ s => Sat.front 1 rfl s) ?_
                              refine TO.stRowH (xs := yq189_12_2) rfl rfl hxq189_13_2 ksizeB_22_1_true ?_
                              refine TA.back (.inl (by kernel_rfl)) ?_
                              refine TA.asL (L' := (SS 22 3 1 cI v6 (hs133.set x71.2.2.1.toNat vq189_12_4) (y132.set x71.2.2.1.toNat yq189_12_2) :: OwnS 3 1 vq189_11_1 (([x145] : List Int).map cI) :: Bx b73 106 [I x71.1, I x71.2.1, I x71.2.2.1, I x71.2.2.2] :: OwnS 3 1 v30 (y32.map cI) :: SS 22 3 1 cI v33 hs34 (y36) :: OwnS 28 1 v37 (y39.map cI) :: SS 22 3 1 cI v14 hs130 (y129) :: Bx b10 63 [v37, v6] :: Bx b3 63 [.slice none 0 0, .slice none 0 0] :: L)) (listed' := #[true, true, true, true, true, true, true, true, true, true, true, true, true, true, true]) (by kernel_rfl) (by kernel_rfl) ?_
                              cases hj192
                              refine TA.nil (by kernel_rfl) fun a w e s => ?_
                              exact ⟨(hs133.set x71.2.2.1.toNat vq189_12_4), e.sub (lk_of_allIn ⟨rfl, rfl, rfl, rfl, rfl, rfl, rfl, rfl, rfl, rfl, rfl, trivial⟩), s.mono fun _ s => (by exact Sat.by [8, 1, 8, 8, 8, 8, 8, 8] 8 1 (by kernel_rfl) s)⟩
                          · intro a w ⟨hs191, he, hs⟩
                            cases hb140
                            have e := he; have s := hs
                            exact ⟨hs191, e.sub (lk_of_allIn ⟨rfl, rfl, rfl, rfl, rfl, rfl, rfl, rfl, rfl, rfl, rfl, trivial⟩), s⟩
                      · rintro r rfl
                        exact fun a w h => h.elim
                    · exact fun a w e s => ⟨hs43, e.sub (lk_of_allIn ⟨rfl, rfl, rfl, rfl, rfl, rfl, rfl, rfl, rfl, rfl, rfl, trivial⟩), s⟩
                    · rintro y136 rfl a w ⟨hs137, he, hs⟩
                      dsimp only [Ctl.on] at hj84
                      cases hj84
                      have e := he; have s := hs
                      exact ⟨v30, v33, hs34, hs130, hs137, e.sub (lk_of_allIn ⟨rfl, rfl, rfl, rfl, rfl, rfl, rfl, rfl, rfl, rfl, trivial⟩), s⟩
                    · rintro r rfl
                      exact fun a w h => h.elim
      · intro a w ⟨v75, v77, hs78, hs80, hs82, he, hs⟩
        refine TC.use ?_ he hs
        refine TC.region ?_
        refine TO.s rfl rfl rfl (StepS.fld rfl kfieldB_63_0_0_true) ?_
        refine TO.s rfl rfl rfl (StepS.ldB rfl (Ent.at 5 rfl) kscalB_24_true rfl) ?_
        refine TO.s rfl rfl rfl (StepS.move rfl) ?_
        refine TO.litS (f := cI) ([x83] : List Int) kelemB_24_28_1_8_true kinfo_28_bind_zero_some_I_0 rfl rfl (fun _ => rfl) rfl rfl (by kernel_rfl) rfl fun v193 => ?_
        obtain ⟨y195, hk196, hb69⟩ := bind_some hb69
        refine TO.app (k := 4) (f := cI) kelemB_24_28_1_8_true (by decide) rfl rfl rfl (OwnS.rd (Ent.at 0 rfl)) hk196 (fun x c hc => by simp [Value.oneCell'] at hc ⊢; first | (obtain rfl := hc; rfl) | (rcases hc with rfl <;> rfl)) rfl rfl fun v197 => ?_
        refine TO.s rfl rfl rfl (StepS.fld rfl kfieldB_63_0_0_true) ?_
        refine TO.pure (fun _ s => Rd.one (OwnS.rd (Ent.at 4 rfl)) s) fun oc198 => ?_
        refine TO.stB (us := [v197]) 6 [v197, v6] rfl rfl rfl ksizeB_24_1_true oc198.2 rfl rfl (by intro u hu; simp only [List.mem_cons, List.not_mem_nil, or_false] at hu; rcases hu with rfl <;> first | exact oc198.1 | rfl) rfl ?_
        refine TO.code ?_
        refine TC.region ?_
        refine TO.s rfl rfl rfl (StepS.ari rfl rfl rfl) ?_
        refine TO.s rfl rfl rfl (StepS.move rfl) ?_
        cases hb69
        refine TO.nil fun a w e s => ?_
        exact ⟨v75, v77, hs78, v197, hs80, hs82, e.sub (lk_of_allIn ⟨rfl, rfl, rfl, rfl, rfl, rfl, rfl, rfl, rfl, trivial⟩), s.mono fun _ => Sat.dropN 2⟩
    · replace hb69 := cond_f hc70 hb69
      cases hb69
      refine TC.exit rfl fun a w e s => ?_
      exact ⟨v37, hs41, hs43, e.sub (lk_of_allIn ⟨rfl, rfl, trivial⟩), s.mono fun _ => Sat.dropN 2⟩
  · exact fun a w e s => ⟨.slice none 0 0, .slice none 0 0, [], .slice none 0 0, hs15, hs7, e.sub (lk_of_allIn ⟨rfl, rfl, rfl, rfl, rfl, rfl, rfl, rfl, rfl, trivial⟩), s.mono fun _ s => (by replace s := Sat.nilS (e := 28) (sz := 1) (f := cI) s; replace s := Sat.nilSS (e := 22) (ee := 3) (sz := 1) (f := cI) s; replace s := Sat.nilS (e := 3) (sz := 1) (f := cI) s; exact Sat.by [6, 6, 6, 6, 6, 6, 6] 7 0 (by kernel_rfl) s)⟩
  · rintro ⟨y62, y63, y65⟩ rfl a w ⟨v60, hs64, hs66, he, hs⟩
    dsimp only [Ctl.on] at hm
    refine TC.use ?_ he hs
    refine TC.k ?_
    refine TC.region ?_
    refine TO.s rfl rfl rfl (StepS.ldBA rfl (Ent.at 2 rfl) kaggB_63_2_true rfl rfl) ?_
    refine TO.pure (fun _ s => Rd.one (OwnS.rd (Ent.at 0 rfl)) s) fun oc199 => ?_
    refine TO.pure (fun _ s => Rd.one (RR.top (SS.rr (Ent.at 3 rfl))) s) fun oc200 => ?_
    refine TO.stB (us := [v60, v6]) 4 [v60, v6] rfl rfl rfl ksizeB_63_2_true rfl rfl rfl (by intro u hu; simp only [List.mem_cons, List.not_mem_nil, or_false] at hu; rcases hu with rfl | rfl <;> first | exact oc199.1 | exact oc200.1 | rfl) rfl ?_
    refine TO.code ?_
    cases hm
    refine TC.ret fun a w e s => ?_
    refine FRet.cell1 (P := Try.prog) (fn := Try.f32) e s rfl rfl (Ent.at 4 rfl) kaggB_63_2_true rfl ?_
    refine ⟨_, _, rfl, ⟨(v60), (v6), (hs66), rfl, rfl⟩, ?_⟩
    refine s.mono fun _ s => ?_
    replace s := Sat.front 3 rfl s
    replace s := Sat.front 1 rfl s
    replace s := Sat.erase 2 s
    replace s := Sat.erase 2 s
    replace s := Sat.erase 2 s
    exact s
  · rintro r rfl
    exact fun a w h => h.elim

set_option maxRecDepth 100000 in
theorem C8 {B : World} {L : List HP} {a0 : Int} {a1 : List (Int × Int × Int × Int)} {h1 : Value} {r0 : Bool} (e1 : Ent L (Rd 4 h1 (a1.map cTiiii))) (hm : F8 a0 a1 = some r0) {w : World} (st : St B L w) : Calls Try.prog 8 #[I a0, h1] w (fun e w' => (e = .returned (.bool r0) ∧ St B (L) w')) := by
  refine calls_of (N := 42) (L := L) (args := [I a0, h1]) Try.func8 rfl rfl rfl ?_ st
  dsimp only [F8] at hm
  refine TC.k ?_
  refine TC.region ?_
  refine TO.s rfl rfl rfl (StepS.assign rfl) ?_
  refine TO.code ?_
  refine TC.k ?_
  refine TC.region ?_
  refine TO.s rfl rfl rfl (StepS.move rfl) ?_
  refine TO.s rfl rfl rfl (StepS.move rfl) ?_
  obtain ⟨⟨r1, r2⟩, hc3, hm⟩ := bind_some hm
  refine TO.callO kcallB_31_true rfl rfl rfl (fun _ st => C31 e1 hc3 st) ?_
  rintro _ _ ⟨v4, v6, hs7, rfl, rfl⟩
  refine TO.s rfl rfl rfl (StepS.move rfl) ?_
  refine TO.s rfl rfl rfl (StepS.extract rfl rfl) ?_
  refine TO.s rfl rfl rfl (StepS.extract rfl rfl) ?_
  refine TO.alloc kinfo_63_bind_zero_some_agg_slice_none_0_0_slice_none_0_0 rfl rfl fun b9 => ?_
  refine TO.pure (fun _ s => Rd.one (OwnS.rd (Ent.at 1 rfl)) s) fun oc10 => ?_
  refine TO.pure (fun _ s => Rd.one (RR.top (SS.rr (Ent.at 2 rfl))) s) fun oc11 => ?_
  refine TO.stB (us := [v4, v6]) 0 [v4, v6] rfl rfl rfl ksizeB_63_2_true rfl rfl rfl (by intro u hu; simp only [List.mem_cons, List.not_mem_nil, or_false] at hu; rcases hu with rfl | rfl <;> first | exact oc10.1 | exact oc11.1 | rfl) rfl ?_
  refine TO.s rfl rfl rfl (StepS.assign rfl) ?_
  refine TO.code ?_
  refine TC.k ?_
  refine TC.region ?_
  refine TO.s rfl rfl rfl (StepS.move rfl) ?_
  refine TO.s rfl rfl rfl (StepS.move rfl) ?_
  refine TO.s rfl rfl rfl (StepS.lenm rfl e1.tl.tl.tl ksliceB_23_106_4_true rfl) ?_
  obtain ⟨r12, hc13, hm⟩ := bind_some hm
  refine TO.q rfl rfl rfl (StepQ.call kcallB_21_true rfl rfl (fun _ st => C21  hc13 st)) ?_
  refine TO.s rfl rfl rfl (StepS.assign rfl) ?_
  refine TO.code ?_
  refine TC.k ?_
  refine TC.region ?_
  refine TO.s rfl rfl rfl (StepS.build (cs := [.slice none 0 0, .slice none 0 0]) rfl (by kernel_rfl)) ?_
  refine TO.alloc kinfo_63_bind_zero_some_agg_slice_none_0_0_slice_none_0_0 rfl rfl fun b14 => ?_
  refine TO.stB (us := [.slice none 0 0, .slice none 0 0]) 0 [.slice none 0 0, .slice none 0 0] rfl rfl rfl ksizeB_63_2_true rfl rfl rfl (by simp [Value.oneCell']) rfl ?_
  refine TO.code ?_
  refine TC.k ?_
  refine TC.k ?_
  refine TC.region ?_
  refine TO.s rfl rfl rfl (StepS.move rfl) ?_
  refine TO.s rfl rfl rfl (StepS.cmp rfl rfl rfl) ?_
  refine TO.code ?_
  obtain ⟨⟨y17, y21⟩, hj22, hm⟩ := bind_some hm
  first | refine TC.cutM (fun a w => ∃ v15 : Value, ∃ v18 : Value, ∃ hs19 : List Value, Mid 42 B [(5, .pointer (some ⟨b9, 0, none⟩)), (6, I r2), (7, I r12), (8, .pointer (some ⟨b14, 0, none⟩))] (OwnS 28 1 v15 (y17.map cI) :: SS 22 3 1 cI v18 hs19 (y21) :: Bx b14 63 [v15, v18] :: Bx b9 63 [v4, v6] :: OwnS 28 1 v4 (r1.1.map cI) :: SS 22 3 1 cI v6 hs7 (r1.2) :: L) a w) ?_ ?_ | refine TC.cutX (fun a w => ∃ v15 : Value, ∃ v18 : Value, ∃ hs19 : List Value, Mid 42 B [(5, .pointer (some ⟨b9, 0, none⟩)), (6, I r2), (7, I r12), (8, .pointer (some ⟨b14, 0, none⟩))] (OwnS 28 1 v15 (y17.map cI) :: SS 22 3 1 cI v18 hs19 (y21) :: Bx b14 63 [v15, v18] :: Bx b9 63 [v4, v6] :: OwnS 28 1 v4 (r1.1.map cI) :: SS 22 3 1 cI v6 hs7 (r1.2) :: L) a w) ?_ ?_
  · refine TC.cond rfl (fun hc23 => ?_) (fun hc23 => ?_)
    · replace hj22 := cond_t hc23 hj22
      refine TC.region ?_
      refine TO.s rfl rfl rfl (StepS.move rfl) ?_
      refine TO.s rfl rfl rfl (StepS.move rfl) ?_
      obtain ⟨r24, hc25, hj22⟩ := bind_some hj22
      refine TO.callO kcallB_32_true rfl rfl rfl (fun _ st => C32 e1.tl.tl.tl.tl hc25 st) ?_
      rintro _ _ ⟨v26, v28, hs29, rfl, rfl⟩
      refine TO.pure (fun _ s => Rd.one (OwnS.rd (Ent.at 0 rfl)) s) fun oc31 => ?_
      refine TO.pure (fun _ s => Rd.one (RR.top (SS.rr (Ent.at 1 rfl))) s) fun oc32 => ?_
      refine TO.stB (us := [v26, v28]) 2 [v26, v28] rfl rfl rfl ksizeB_63_2_true rfl rfl rfl (by intro u hu; simp only [List.mem_cons, List.not_mem_nil, or_false] at hu; rcases hu with rfl | rfl <;> first | exact oc31.1 | exact oc32.1 | rfl) rfl ?_
      cases hj22
      refine TO.nil fun a w e s => ?_
      exact ⟨v26, v28, hs29, e.sub (lk_of_allIn ⟨rfl, rfl, rfl, rfl, trivial⟩), s⟩
    · replace hj22 := cond_f hc23 hj22
      cases hj22
      refine TC.skip fun a w e s => ?_
      exact ⟨.slice none 0 0, .slice none 0 0, [], e.sub (lk_of_allIn ⟨rfl, rfl, rfl, rfl, trivial⟩), s.mono fun _ s => (by replace s := Sat.nilSS (e := 22) (ee := 3) (sz := 1) (f := cI) s; replace s := Sat.nilS (e := 28) (sz := 1) (f := cI) s; exact Sat.by [5, 5, 5, 5, 5, 5] 6 0 (by kernel_rfl) s)⟩
  · intro a w ⟨v15, v18, hs19, he, hs⟩
    refine TC.use ?_ he hs
    refine TC.k ?_
    refine TC.region ?_
    refine TO.s rfl rfl rfl (StepS.move rfl) ?_
    refine TO.s rfl rfl rfl (StepS.move rfl) ?_
    refine TO.s rfl rfl rfl (StepS.cmp rfl rfl rfl) ?_
    refine TO.s rfl rfl rfl (StepS.move rfl) ?_
    obtain ⟨b34, hj35, hm⟩ := bind_some hm
    refine TO.mid1 6 34 (.bool b34) ?_ ?_
    · refine bcase ((r2 == r12)) (fun hb33 => ?_) (fun hb33 => ?_)
      · replace hj35 := cond_t hb33 hj35
        refine TO.sw rfl rfl rfl hb33 rfl rfl (StepS.fld rfl kfieldB_63_0_0_true) ?_
        refine TO.sw rfl rfl rfl hb33 rfl rfl (StepS.ldB rfl (Ent.at 3 rfl) kscalB_24_true rfl) ?_
        refine TO.sw rfl rfl rfl hb33 rfl rfl (StepS.fld rfl kfieldB_63_0_0_true) ?_
        refine TO.sw rfl rfl rfl hb33 rfl rfl (StepS.ldB rfl (Ent.at 2 rfl) kscalB_24_true rfl) ?_
        obtain ⟨r36, hc37, hj35⟩ := bind_some hj35
        refine TO.qw rfl rfl rfl hb33 rfl rfl (StepQ.call kcallB_18_true rfl rfl (fun _ st => C18 (OwnS.rd (Ent.at 4 rfl)) (OwnS.rd (Ent.at 0 rfl)) hc37 st)) ?_
        cases hj35
        refine TO.s rfl rfl rfl (StepS.pickT rfl hb33 rfl) ?_
        exact TO.up1 6 0 rfl rfl rfl rfl
      · replace hj35 := cond_f hb33 hj35
        cases hj35
        refine TO.skip rfl rfl rfl (skipF hb33) rfl rfl ?_
        refine TO.skip rfl rfl rfl (skipF hb33) rfl rfl ?_
        refine TO.skip rfl rfl rfl (skipF hb33) rfl rfl ?_
        refine TO.skip rfl rfl rfl (skipF hb33) rfl rfl ?_
        refine TO.skip rfl rfl rfl (skipF hb33) rfl rfl ?_
        refine TO.s rfl rfl rfl (StepS.pickF rfl hb33 rfl) ?_
        exact TO.up1 6 0 rfl rfl rfl rfl
    refine TO.s rfl rfl rfl (StepS.move rfl) ?_
    obtain ⟨b39, hj40, hm⟩ := bind_some hm
    refine TO.mid1 6 41 (.bool b39) ?_ ?_
    · refine bcase (b34) (fun hb38 => ?_) (fun hb38 => ?_)
      · replace hj40 := cond_t hb38 hj40
        refine TO.sw rfl rfl rfl hb38 rfl rfl (StepS.fld rfl kfieldB_63_1_1_true) ?_
        refine TO.sw rfl rfl rfl hb38 rfl rfl (StepS.ldB rfl (Ent.at 3 rfl) kscalB_50_true rfl) ?_
        refine TO.sw rfl rfl rfl hb38 rfl rfl (StepS.fld rfl kfieldB_63_1_1_true) ?_
        refine TO.sw rfl rfl rfl hb38 rfl rfl (StepS.ldB rfl (Ent.at 2 rfl) kscalB_50_true rfl) ?_
        obtain ⟨r41, hc42, hj40⟩ := bind_some hj40
        refine TO.qw rfl rfl rfl hb38 rfl rfl (StepQ.call kcallB_28_true rfl rfl (fun _ st => C28 (SS.rr (Ent.at 5 rfl)) (SS.rr (Ent.at 1 rfl)) hc42 st)) ?_
        cases hj40
        refine TO.s rfl rfl rfl (StepS.pickT rfl hb38 rfl) ?_
        exact TO.up1 6 0 rfl rfl rfl rfl
      · replace hj40 := cond_f hb38 hj40
        cases hj40
        refine TO.skip rfl rfl rfl (skipF hb38) rfl rfl ?_
        refine TO.skip rfl rfl rfl (skipF hb38) rfl rfl ?_
        refine TO.skip rfl rfl rfl (skipF hb38) rfl rfl ?_
        refine TO.skip rfl rfl rfl (skipF hb38) rfl rfl ?_
        refine TO.skip rfl rfl rfl (skipF hb38) rfl rfl ?_
        refine TO.s rfl rfl rfl (StepS.pickF rfl hb38 rfl) ?_
        exact TO.up1 6 0 rfl rfl rfl rfl
    refine TO.s rfl rfl rfl (StepS.assign rfl) ?_
    refine TO.code ?_
    cases hm
    refine TC.ret fun a w e s => ?_
    refine FRet.mk1 (P := Try.prog) (fn := Try.f8) (t := 4) e rfl rfl ?_
    exact ⟨rfl, s.mono fun _ => Sat.dropN 6⟩
end Go.Proofs.Ythfkdepcnhhepaa
