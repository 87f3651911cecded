/-
  The walks: each Go function returns what its model says. Written by a program (gen.py).
-/
import Derived.Test.YthfkdepcnhhepaaProg
import Derived.KernelRfl
import Derived.Test.YthfkdepcnhhepaaKW
import Derived.Test.YthfkdepcnhhepaaTM
namespace Go.Proofs.Ythfkdepcnhhepaa
open Go Go.Bk
set_option linter.unusedVariables false
set_option linter.unnecessarySimpa false
theorem kscalB_173_true : scalB Try.prog 173 = true := by kernel_rfl
theorem kfieldB_176_0_0_true : fieldB Try.prog 176 0 0 = true := by kernel_rfl
theorem kscalB_174_true : scalB Try.prog 174 = true := by kernel_rfl
theorem ksliceB_174_178_5_true : sliceB Try.prog 174 178 5 = true := by kernel_rfl
theorem kunderlying_114_some_array_2_3 : Try.prog.underlying 114 = some (.array 2 3) := by kernel_rfl
theorem kunderlying_3_some_int_i64 : Try.prog.underlying 3 = some (.int .i64) := by kernel_rfl
theorem ksizeB_3_1_true : sizeB Try.prog 3 1 = true := by kernel_rfl
theorem kinfo_114_bind_zero_some_agg_I_0_I_0 : (Try.prog.info? 114).bind (·.zero) = some (.agg #[I 0, I 0]) := by kernel_rfl
theorem ksizeB_114_2_true : sizeB Try.prog 114 2 = true := by kernel_rfl
theorem kfieldB_176_1_1_true : fieldB Try.prog 176 1 1 = true := by kernel_rfl
theorem kscalB_131_true : scalB Try.prog 131 = true := by kernel_rfl
theorem kaggB_114_2_true : aggB Try.prog 114 2 = true := by kernel_rfl
theorem kelemB_22_3_1_8_true : elemB Try.prog 22 3 1 8 = true := by kernel_rfl
theorem kinfo_3_bind_zero_some_I_0 : (Try.prog.info? 3).bind (·.zero) = some (I 0) := by kernel_rfl
theorem kmapGB_131_114_22_true : mapGB Try.prog 131 114 22 = true := by kernel_rfl
theorem kinfo_22_bind_zero_some_slice_none_0_0 : (Try.prog.info? 22).bind (·.zero) = some (.slice none 0 0) := by kernel_rfl
theorem kfieldB_178_1_1_true : fieldB Try.prog 178 1 1 = true := by kernel_rfl
theorem kfieldB_178_3_3_true : fieldB Try.prog 178 3 3 = true := by kernel_rfl
theorem kscalB_36_true : scalB Try.prog 36 = true := by kernel_rfl
theorem kfieldB_178_2_2_true : fieldB Try.prog 178 2 2 = true := by kernel_rfl
theorem ksizeB_4_1_true : sizeB Try.prog 4 1 = true := by kernel_rfl
theorem kscalB_4_true : scalB Try.prog 4 = true := by kernel_rfl
theorem kfieldB_178_0_0_true : fieldB Try.prog 178 0 0 = true := by kernel_rfl
theorem ksizeB_36_1_true : sizeB Try.prog 36 1 = true := by kernel_rfl
theorem kcallB_134_true : callB Try.prog 134 = true := by kernel_rfl
theorem kcallB_135_true : callB Try.prog 135 = true := by kernel_rfl
theorem kfieldB_178_4_4_true : fieldB Try.prog 178 4 4 = true := by kernel_rfl
theorem kfieldB_106_0_0_true : fieldB Try.prog 106 0 0 = true := by kernel_rfl
theorem kcallB_103_true : callB Try.prog 103 = true := by kernel_rfl
theorem kcallB_104_true : callB Try.prog 104 = true := by kernel_rfl
theorem kcallB_105_true : callB Try.prog 105 = true := by kernel_rfl
theorem kcallB_106_true : callB Try.prog 106 = true := by kernel_rfl
theorem kinfo_80_bind_zero_some_agg_slice_none_0_0_U_0_U_0_I_0 : (Try.prog.info? 80).bind (·.zero) = some (.agg #[.slice none 0 0, U 0, U 0, I 0]) := by kernel_rfl
theorem ksliceB_23_106_4_true : sliceB Try.prog 23 106 4 = true := by kernel_rfl
theorem ksizeB_80_4_true : sizeB Try.prog 80 4 = true := by kernel_rfl
theorem kaggB_80_4_true : aggB Try.prog 80 4 = true := by kernel_rfl
theorem kelemB_174_178_5_32_true : elemB Try.prog 174 178 5 32 = true := by kernel_rfl
theorem kinfo_178_bind_zero_some_agg_I_0_I_0_bool_false_U_0_U_0 : (Try.prog.info? 178).bind (·.zero) = some (.agg #[I 0, I 0, .bool false, U 0, U 0]) := by kernel_rfl
theorem kaggB_106_4_true : aggB Try.prog 106 4 = true := by kernel_rfl
theorem kinfo_106_bind_zero_some_agg_I_0_I_0_I_0_I_0 : (Try.prog.info? 106).bind (·.zero) = some (.agg #[I 0, I 0, I 0, I 0]) := by kernel_rfl
theorem ksizeB_106_4_true : sizeB Try.prog 106 4 = true := by kernel_rfl
theorem kfieldB_80_0_0_true : fieldB Try.prog 80 0 0 = true := by kernel_rfl
theorem kscalB_24_true : scalB Try.prog 24 = true := by kernel_rfl
theorem kcallB_72_true : callB Try.prog 72 = true := by kernel_rfl
theorem kelemB_24_28_1_8_true : elemB Try.prog 24 28 1 8 = true := by kernel_rfl
theorem kinfo_28_bind_zero_some_I_0 : (Try.prog.info? 28).bind (·.zero) = some (I 0) := by kernel_rfl
theorem ksizeB_24_1_true : sizeB Try.prog 24 1 = true := by kernel_rfl
theorem kaggB_178_5_true : aggB Try.prog 178 5 = true := by kernel_rfl
theorem ksizeB_178_5_true : sizeB Try.prog 178 5 = true := by kernel_rfl
theorem kfieldB_80_1_1_true : fieldB Try.prog 80 1 1 = true := by kernel_rfl
theorem kfieldB_80_2_2_true : fieldB Try.prog 80 2 2 = true := by kernel_rfl
theorem kfieldB_80_3_3_true : fieldB Try.prog 80 3 3 = true := by kernel_rfl

set_option maxRecDepth 100000 in
theorem C103 {B : World} {L : List HP} {a0 : Int} {a1_0 : Nat} {b1_ : Nat} {c1_ : Nat} {h1_0 : Value} {u1_1_0 : Value} {r0 : Bool} (g1 : Ent L (Bx b1_ 173 [.pointer (some ⟨c1_, 0, none⟩)])) (gg1 : Ent L (Bx c1_ 176 [h1_0, u1_1_0])) (e1_0 : Ent L (Hd h1_0 a1_0)) (hm : F103 a0 a1_0 = some r0) {w : World} (st : St B L w) : Calls Try.prog 103 #[I a0, .pointer (some ⟨b1_, 0, none⟩)] w (fun e w' => (e = .returned (.bool r0) ∧ St B (L) w')) := by
  refine calls_of (N := 15) (L := L) (args := [I a0, .pointer (some ⟨b1_, 0, none⟩)]) Try.func103 rfl rfl rfl ?_ st
  dsimp only [F103] at hm
  refine TC.k ?_
  refine TC.region ?_
  refine TO.s rfl rfl rfl (StepS.assign rfl) ?_
  refine TO.code ?_
  refine TC.k ?_
  refine TC.region ?_
  refine TO.s rfl rfl rfl (StepS.move rfl) ?_
  refine TO.s rfl rfl rfl (StepS.cmp rfl rfl rfl) ?_
  refine TO.s rfl rfl rfl (StepS.move rfl) ?_
  refine TO.mid1 8 14 (.bool ((decide (a0 < 0)) || (decide (a0 ≥ (a1_0 : Int))))) ?_ ?_
  · refine bcase ((decide (a0 < 0))) (fun hb1 => ?_) (fun hb1 => ?_)
    · refine TO.skip rfl rfl rfl (skipT hb1) rfl rfl ?_
      refine TO.skip rfl rfl rfl (skipT hb1) rfl rfl ?_
      refine TO.skip rfl rfl rfl (skipT hb1) rfl rfl ?_
      refine TO.skip rfl rfl rfl (skipT hb1) rfl rfl ?_
      refine TO.skip rfl rfl rfl (skipT hb1) rfl rfl ?_
      refine TO.skip rfl rfl rfl (skipT hb1) rfl rfl ?_
      refine TO.skip rfl rfl rfl (skipT hb1) rfl rfl ?_
      refine TO.s rfl rfl rfl (StepS.pickT rfl hb1 rfl) ?_
      exact TO.up1 8 0 rfl rfl (by rw [hb1]; rfl) rfl
    · refine TO.sw rfl rfl rfl hb1 rfl rfl (StepS.move rfl) ?_
      refine TO.sw rfl rfl rfl hb1 rfl rfl (StepS.ldB rfl g1 kscalB_173_true rfl) ?_
      refine TO.sw rfl rfl rfl hb1 rfl rfl (StepS.nilc rfl) ?_
      refine TO.sw rfl rfl rfl hb1 rfl rfl (StepS.fld rfl kfieldB_176_0_0_true) ?_
      refine TO.sw rfl rfl rfl hb1 rfl rfl (StepS.ldB rfl gg1 kscalB_174_true rfl) ?_
      refine TO.sw rfl rfl rfl hb1 rfl rfl (StepS.lenHd rfl e1_0 ksliceB_174_178_5_true rfl) ?_
      refine TO.sw rfl rfl rfl hb1 rfl rfl (StepS.cmp rfl rfl rfl) ?_
      refine TO.s rfl rfl rfl (StepS.pickF rfl hb1 rfl) ?_
      exact TO.up1 8 0 rfl rfl (by rw [hb1]; rfl) rfl
  refine TO.s rfl rfl rfl (StepS.assign rfl) ?_
  refine TO.code ?_
  cases hm
  refine TC.ret fun a w e s => ?_
  refine FRet.mk1 (P := Try.prog) (fn := Try.f103) (t := 3) e rfl rfl ?_
  exact ⟨rfl, s.mono fun _ => Sat.dropN 0⟩

set_option maxRecDepth 100000 in
theorem C134 {B : World} {L : List HP} {a0 : (Int × Int) → Option (List Int)} {a1 : Int} {a2 : Int} {a3 : Int} {b0_ : Nat} {u0_0 : Value} {h0_1 : Nat} {h0_2 : (Int × Int) → Value} {s0 : (Int × Int) → Option (List Int)} (hm : F134 a0 a1 a2 a3 = some s0) {w : World} (st : St B (Bx b0_ 176 [u0_0, .map (some h0_1)] :: MS (fun k : Int × Int => .agg #[I k.1, I k.2]) 3 1 cI h0_1 h0_2 (a0) :: L) w) : Calls Try.prog 134 #[.pointer (some ⟨b0_, 0, none⟩), I a1, I a2, I a3] w (fun e w' => ∃ v M, e = .returned v ∧ (∃ (qr1 : Nat) (qhd2 : (Int × Int) → Value), v = .tuple #[] ∧ M = (Bx b0_ 176 [u0_0, .map (some qr1)] :: MS (fun k : Int × Int => .agg #[I k.1, I k.2]) 3 1 cI qr1 qhd2 (s0) :: L)) ∧ St B M w') := by
  refine calls_of (N := 23) (L := (Bx b0_ 176 [u0_0, .map (some h0_1)] :: MS (fun k : Int × Int => .agg #[I k.1, I k.2]) 3 1 cI h0_1 h0_2 (a0) :: L)) (args := [.pointer (some ⟨b0_, 0, none⟩), I a1, I a2, I a3]) Try.func134 rfl rfl rfl ?_ st
  dsimp only [F134] at hm
  refine TC.k ?_
  refine TC.region ?_
  refine TO.s rfl rfl rfl (StepS.move rfl) ?_
  refine TO.s rfl rfl rfl (StepS.move rfl) ?_
  refine TO.s rfl rfl rfl (StepS.build (cs := [I a1, I a2]) rfl (by kernel_rfl)) ?_
  refine TO.alloc kinfo_114_bind_zero_some_agg_I_0_I_0 rfl rfl fun b3 => ?_
  refine TO.stB (us := [I a1, I a2]) 0 [I a1, I a2] rfl rfl rfl ksizeB_114_2_true rfl rfl rfl (by simp [Value.oneCell']) rfl ?_
  refine TO.code ?_
  refine TC.region_any (Bx b3 114 [I a1, I a2] :: Bx b0_ 176 [u0_0, .map (some h0_1)] :: MS (fun k : Int × Int => .agg #[I k.1, I k.2]) 3 1 cI h0_1 h0_2 (a0) :: L) 7 12 kfollows_mixedOrders_true rfl ?_
  refine TA.takeW 0 rfl rfl rfl rfl (StepS.move rfl) (by kernel_rfl) (by kernel_rfl) (by kernel_rfl) rfl (.inr (fun _ s => s)) ?_
  refine TA.takeW 1 rfl rfl rfl rfl (StepS.nilc rfl) (by kernel_rfl) (by kernel_rfl) (by kernel_rfl) rfl (.inr (fun _ s => s)) ?_
  refine TA.takeW 2 rfl rfl rfl rfl (StepS.fld rfl kfieldB_176_1_1_true) (by kernel_rfl) (by kernel_rfl) (by kernel_rfl) rfl (.inr (fun _ s => s)) ?_
  refine TA.take 3 rfl rfl rfl rfl (StepS.ldB rfl (Ent.at 1 rfl) kscalB_131_true rfl) (by kernel_rfl) (by kernel_rfl) (by kernel_rfl) (by kernel_rfl) (by kernel_rfl) (fun _ s => s) ?_
  refine TA.take 4 rfl rfl rfl rfl (StepS.ldBA rfl (Ent.at 0 rfl) kaggB_114_2_true rfl rfl) (by kernel_rfl) (by kernel_rfl) (by kernel_rfl) (by kernel_rfl) (by kernel_rfl) (fun _ s => s) ?_
  refine TA.takeW 5 rfl rfl rfl rfl (StepS.move rfl) (by kernel_rfl) (by kernel_rfl) (by kernel_rfl) rfl (.inr (fun _ s => s)) ?_
  refine TA.all1 (i := 6) (by kernel_rfl) ?_
  refine TB.of rfl ?_
  refine TO.litS (f := cI) ([a3] : List Int) kelemB_22_3_1_8_true kinfo_3_bind_zero_some_I_0 rfl rfl (fun _ => rfl) rfl rfl (by kernel_rfl) rfl fun vq4_6_1 => ?_
  refine TA.back (.inr (fun _ s => Sat.by [3, 3, 3] 3 1 (by kernel_rfl) s)) ?_
  refine TA.asL (L' := (OwnS 3 1 vq4_6_1 (([a3] : List Int).map cI) :: Bx b3 114 [I a1, I a2] :: Bx b0_ 176 [u0_0, .map (some h0_1)] :: MS (fun k : Int × Int => .agg #[I k.1, I k.2]) 3 1 cI h0_1 h0_2 (a0) :: L)) (listed' := #[true, true, true, true, true, true, true, false, false, false, false, false]) (by kernel_rfl) (by kernel_rfl) ?_
  refine TA.all1 (i := 7) (by kernel_rfl) ?_
  refine TB.of rfl ?_
  refine TO.ghost (fun _ s => Sat.front 3 rfl s) ?_
  refine TO.mentS (k := (a1, a2)) kmapGB_131_114_22_true (KeyOk.pair kunderlying_114_some_array_2_3 kunderlying_3_some_int_i64 ksizeB_3_1_true kscalB_3_true) kinfo_22_bind_zero_some_slice_none_0_0 rfl rfl rfl fun sbq4_7_1 => ?_
  refine TA.back (.inl (by kernel_rfl)) ?_
  refine TA.asL (L' := (OwnS 3 1 (mhd h0_2 a0 (a1, a2)) (((a0 (a1, a2)).getD []).map cI) :: MSs (fun k : Int × Int => .agg #[I k.1, I k.2]) 3 1 cI h0_1 h0_2 (a0) (a1, a2) sbq4_7_1 :: OwnS 3 1 vq4_6_1 (([a3] : List Int).map cI) :: Bx b3 114 [I a1, I a2] :: Bx b0_ 176 [u0_0, .map (some h0_1)] :: L)) (listed' := #[true, true, true, true, true, true, true, true, false, false, false, false]) (by kernel_rfl) (by kernel_rfl) ?_
  refine TA.takeW 8 rfl rfl rfl rfl (StepS.extract rfl rfl) (by kernel_rfl) (by kernel_rfl) (by kernel_rfl) rfl (.inl (by kernel_rfl)) ?_
  refine TA.takeW 10 rfl rfl rfl rfl (StepS.extract rfl rfl) (by kernel_rfl) (by kernel_rfl) (by kernel_rfl) rfl (.inl (by kernel_rfl)) ?_
  refine TA.all1 (i := 9) (by kernel_rfl) ?_
  refine TB.of rfl ?_
  obtain ⟨yq4_9_1, hkq4_9_2, hm⟩ := bind_some hm
  refine TO.app (k := 0) (f := cI) kelemB_22_3_1_8_true (by decide) rfl rfl rfl (OwnS.rd (Ent.at 2 rfl)) hkq4_9_2 (fun x c hc => by simp [Value.oneCell'] at hc ⊢; first | (obtain rfl := hc; rfl) | (rcases hc with rfl <;> rfl)) rfl rfl fun vq4_9_3 => ?_
  refine TA.back (.inl (by kernel_rfl)) ?_
  refine TA.asL (L' := (OwnS 3 1 vq4_9_3 (yq4_9_1.map cI) :: MSs (fun k : Int × Int => .agg #[I k.1, I k.2]) 3 1 cI h0_1 h0_2 (a0) (a1, a2) sbq4_7_1 :: OwnS 3 1 vq4_6_1 (([a3] : List Int).map cI) :: Bx b3 114 [I a1, I a2] :: Bx b0_ 176 [u0_0, .map (some h0_1)] :: L)) (listed' := #[true, true, true, true, true, true, true, true, true, true, true, false]) (by kernel_rfl) (by kernel_rfl) ?_
  refine TA.all1 (i := 11) (by kernel_rfl) ?_
  refine TB.of rfl ?_
  refine TO.ghost (fun _ s => Sat.front 1 rfl s) ?_
  refine TO.mestS (k := (a1, a2)) (ys := yq4_9_1) rfl rfl rfl fun hsq4_11_1 => ?_
  refine TA.back (.inl (by kernel_rfl)) ?_
  refine TA.asL (L' := (MS (fun k : Int × Int => .agg #[I k.1, I k.2]) 3 1 cI h0_1 hsq4_11_1 (mupd a0 (a1, a2) yq4_9_1) :: OwnS 3 1 vq4_6_1 (([a3] : List Int).map cI) :: Bx b3 114 [I a1, I a2] :: Bx b0_ 176 [u0_0, .map (some h0_1)] :: L)) (listed' := #[true, true, true, true, true, true, true, true, true, true, true, true]) (by kernel_rfl) (by kernel_rfl) ?_
  cases hm
  refine TA.nil (by kernel_rfl) fun a w e s => ?_
  refine FRet.mk0 (P := Try.prog) (fn := Try.f134) e rfl ?_
  refine ⟨_, _, rfl, ⟨h0_1, hsq4_11_1, rfl, rfl⟩, ?_⟩
  refine s.mono fun _ s => ?_
  replace s := Sat.front 0 rfl s
  replace s := Sat.front 3 rfl s
  replace s := Sat.erase 2 s
  replace s := Sat.erase 2 s
  exact s

set_option maxRecDepth 100000 in
theorem C135 {B : World} {L : List HP} {a0 : List (Int × Int × Bool × (BitVec 32) × BitVec 32)} {a1 : Int} {b0_ : Nat} {u0_1 : Value} {h0_1 : Value} {s0 : List (Int × Int × Bool × (BitVec 32) × BitVec 32)} (hm : F135 a0 a1 = some s0) {w : World} (st : St B (Bx b0_ 176 [h0_1, u0_1] :: OwnS 178 5 h0_1 (a0.map cTiibiu32iu32) :: L) w) : Calls Try.prog 135 #[.pointer (some ⟨b0_, 0, none⟩), I a1] w (fun e w' => ∃ v M, e = .returned v ∧ (v = .tuple #[] ∧ M = (Bx b0_ 176 [h0_1, u0_1] :: OwnS 178 5 h0_1 (s0.map cTiibiu32iu32) :: L)) ∧ St B M w') := by
  refine calls_of (N := 39) (L := (Bx b0_ 176 [h0_1, u0_1] :: OwnS 178 5 h0_1 (a0.map cTiibiu32iu32) :: L)) (args := [.pointer (some ⟨b0_, 0, none⟩), I a1]) Try.func135 rfl rfl rfl ?_ st
  dsimp only [F135] at hm
  refine TC.k ?_
  refine TC.region ?_
  refine TO.s rfl rfl rfl (StepS.move rfl) ?_
  refine TO.s rfl rfl rfl (StepS.nilc rfl) ?_
  refine TO.s rfl rfl rfl (StepS.fld rfl kfieldB_176_0_0_true) ?_
  refine TO.s rfl rfl rfl (StepS.ldB rfl (Ent.at 0 rfl) kscalB_174_true rfl) ?_
  refine TO.s rfl rfl rfl (StepS.move rfl) ?_
  obtain ⟨x3, hx4, hm⟩ := bind_some hm
  refine TO.s rfl rfl rfl (StepS.idx rfl rfl (OwnS.rd (Ent.at 1 rfl)) ksliceB_174_178_5_true (idx_spec hx4).1 (idxm_lt hx4)) ?_
  refine TO.s rfl rfl rfl (StepS.assign rfl) ?_
  refine TO.code ?_
  refine TC.k ?_
  refine TC.region_still kfollows_mixedOrders_true (by kernel_rfl) ?_
  refine TS.s rfl rfl rfl (StepS.move rfl) ?_
  refine TS.s rfl rfl rfl (StepS.nilc rfl) ?_
  refine TS.s rfl rfl rfl (StepS.ptrf rfl kfieldB_178_1_1_true) ?_
  refine TS.s rfl rfl rfl (StepS.ld1 rfl (OwnS.rd (Ent.at 1 rfl)) kscalB_3_true rfl (idxm hx4) rfl) ?_
  refine TS.s rfl rfl rfl (StepS.cmp rfl rfl rfl) ?_
  refine TS.s rfl rfl rfl (StepS.move rfl) ?_
  obtain ⟨b6, hj7, hm⟩ := bind_some hm
  refine TS.mid1 16 32 (.bool b6) ?_ ?_
  · refine bcase ((decide (x3.2.1 > 0))) (fun hb5 => ?_) (fun hb5 => ?_)
    · replace hj7 := cond_t hb5 hj7
      refine TS.sw rfl rfl rfl hb5 rfl rfl (StepS.move rfl) ?_
      refine TS.sw rfl rfl rfl hb5 rfl rfl (StepS.nilc rfl) ?_
      refine TS.sw rfl rfl rfl hb5 rfl rfl (StepS.ptrf rfl kfieldB_178_3_3_true) ?_
      refine TS.sw rfl rfl rfl hb5 rfl rfl (StepS.ld1 rfl (OwnS.rd (Ent.at 1 rfl)) kscalB_36_true rfl (idxm hx4) rfl) ?_
      refine TS.sw rfl rfl rfl hb5 rfl rfl (StepS.move rfl) ?_
      obtain ⟨k8, hk9, hj7⟩ := bind_some hj7
      refine TS.sw rfl rfl rfl hb5 rfl rfl (StepS.shlk (m := 1#32) rfl rfl hk9) ?_
      refine TS.sw rfl rfl rfl hb5 rfl rfl (StepS.bitU rfl rfl rfl) ?_
      refine TS.sw rfl rfl rfl hb5 rfl rfl (StepS.move rfl) ?_
      refine TS.sw rfl rfl rfl hb5 rfl rfl (StepS.nilc rfl) ?_
      refine TS.sw rfl rfl rfl hb5 rfl rfl (StepS.fld rfl kfieldB_176_0_0_true) ?_
      refine TS.sw rfl rfl rfl hb5 rfl rfl (StepS.ldB rfl (Ent.at 0 rfl) kscalB_174_true rfl) ?_
      refine TS.sw rfl rfl rfl hb5 rfl rfl (StepS.lenm rfl (OwnS.rd (Ent.at 1 rfl)) ksliceB_174_178_5_true rfl) ?_
      obtain ⟨k10, hk11, hj7⟩ := bind_some hj7
      refine TS.sw rfl rfl rfl hb5 rfl rfl (StepS.shlk (m := 1#32) rfl rfl hk11) ?_
      refine TS.sw rfl rfl rfl hb5 rfl rfl (StepS.bitU (n := 1#32) rfl rfl rfl) ?_
      refine TS.sw rfl rfl rfl hb5 rfl rfl (StepS.cmpU rfl rfl rfl) ?_
      cases hj7
      refine TS.s rfl rfl rfl (StepS.pickT rfl hb5 rfl) ?_
      exact TS.up1 16 0 rfl rfl rfl rfl
    · replace hj7 := cond_f hb5 hj7
      cases hj7
      refine TS.skip rfl rfl rfl (skipF hb5) rfl rfl ?_
      refine TS.skip rfl rfl rfl (skipF hb5) rfl rfl ?_
      refine TS.skip rfl rfl rfl (skipF hb5) rfl rfl ?_
      refine TS.skip rfl rfl rfl (skipF hb5) rfl rfl ?_
      refine TS.skip rfl rfl rfl (skipF hb5) rfl rfl ?_
      refine TS.skip rfl rfl rfl (skipF hb5) rfl rfl ?_
      refine TS.skip rfl rfl rfl (skipF hb5) rfl rfl ?_
      refine TS.skip rfl rfl rfl (skipF hb5) rfl rfl ?_
      refine TS.skip rfl rfl rfl (skipF hb5) rfl rfl ?_
      refine TS.skip rfl rfl rfl (skipF hb5) rfl rfl ?_
      refine TS.skip rfl rfl rfl (skipF hb5) rfl rfl ?_
      refine TS.skip rfl rfl rfl (skipF hb5) rfl rfl ?_
      refine TS.skip rfl rfl rfl (skipF hb5) rfl rfl ?_
      refine TS.skip rfl rfl rfl (skipF hb5) rfl rfl ?_
      refine TS.skip rfl rfl rfl (skipF hb5) rfl rfl ?_
      refine TS.s rfl rfl rfl (StepS.pickF rfl hb5 rfl) ?_
      exact TS.up1 16 0 rfl rfl rfl rfl
  refine TS.code ?_
  refine TC.cond rfl (fun hc12 => ?_) (fun hc12 => ?_)
  · replace hm := cond_t hc12 hm
    refine TC.region ?_
    refine TO.s rfl rfl rfl (StepS.move rfl) ?_
    refine TO.s rfl rfl rfl (StepS.move rfl) ?_
    refine TO.s rfl rfl rfl (StepS.nilc rfl) ?_
    refine TO.s rfl rfl rfl (StepS.ptrf rfl kfieldB_178_2_2_true) ?_
    refine TO.stO (i := a1.toNat) (off := 2) (us := [.bool true]) 1 (x3.1, x3.2.1, true, x3.2.2.2.1, x3.2.2.2.2) rfl rfl rfl ksizeB_4_1_true rfl rfl rfl (idx_spec hx4).2 rfl (by simp [Value.oneCell']) rfl ?_
    refine TO.s rfl rfl rfl (StepS.nilc rfl) ?_
    refine TO.s rfl rfl rfl (StepS.ptrf rfl kfieldB_178_1_1_true) ?_
    obtain ⟨x13, hx14, hm⟩ := bind_some hm
    refine TO.stO (i := a1.toNat) (off := 1) (us := [I 0]) 1 (x13.1, 0, x13.2.2.1, x13.2.2.2.1, x13.2.2.2.2) rfl rfl rfl ksizeB_3_1_true rfl rfl rfl (idx_spec hx14).2 rfl (by simp [Value.oneCell']) rfl ?_
    cases hm
    refine TO.nil fun a w e s => ?_
    refine FRet.mk0 (P := Try.prog) (fn := Try.f135) e rfl ?_
    refine ⟨_, _, rfl, ⟨rfl, rfl⟩, ?_⟩
    refine s.mono fun _ s => ?_
    replace s := Sat.front 1 rfl s
    replace s := Sat.front 1 rfl s
    exact s
  · replace hm := cond_f hc12 hm
    cases hm
    refine TC.skip fun a w e s => ?_
    refine FRet.mk0 (P := Try.prog) (fn := Try.f135) e rfl ?_
    refine ⟨_, _, rfl, ⟨rfl, rfl⟩, ?_⟩
    refine s.mono fun _ s => ?_
    replace s := Sat.front 1 rfl s
    replace s := Sat.front 1 rfl s
    exact s

set_option maxRecDepth 100000 in
theorem C104 {B : World} {L : List HP} {a0 : (List (Int × Int × Bool × (BitVec 32) × BitVec 32)) × ((Int × Int) → Option (List Int))} {a1 : Int} {b0_ : Nat} {h0_1 : Value} {h0_2 : Nat} {h0_3 : (Int × Int) → Value} {r0 : Int} {s0 : (List (Int × Int × Bool × (BitVec 32) × BitVec 32)) × ((Int × Int) → Option (List Int))} (hm : F104 a0 a1 = some (r0, s0)) {w : World} (st : St B (Bx b0_ 176 [h0_1, .map (some h0_2)] :: OwnS 178 5 h0_1 (a0.1.map cTiibiu32iu32) :: MS (fun k : Int × Int => .agg #[I k.1, I k.2]) 3 1 cI h0_2 h0_3 (a0.2) :: L) w) : Calls Try.prog 104 #[.pointer (some ⟨b0_, 0, none⟩), I a1] w (fun e w' => ∃ v M, e = .returned v ∧ (∃ (qr1 : Nat) (qhd2 : (Int × Int) → Value), v = I r0 ∧ M = (Bx b0_ 176 [h0_1, .map (some qr1)] :: OwnS 178 5 h0_1 (s0.1.map cTiibiu32iu32) :: MS (fun k : Int × Int => .agg #[I k.1, I k.2]) 3 1 cI qr1 qhd2 (s0.2) :: L)) ∧ St B M w') := by
  refine calls_of (N := 64) (L := (Bx b0_ 176 [h0_1, .map (some h0_2)] :: OwnS 178 5 h0_1 (a0.1.map cTiibiu32iu32) :: MS (fun k : Int × Int => .agg #[I k.1, I k.2]) 3 1 cI h0_2 h0_3 (a0.2) :: L)) (args := [.pointer (some ⟨b0_, 0, none⟩), I a1]) Try.func104 rfl rfl rfl ?_ st
  dsimp only [F104] at hm
  refine TC.k ?_
  refine TC.region ?_
  refine TO.s rfl rfl rfl (StepS.assign rfl) ?_
  refine TO.code ?_
  refine TC.k ?_
  refine TC.region ?_
  refine TO.s rfl rfl rfl (StepS.move rfl) ?_
  refine TO.s rfl rfl rfl (StepS.nilc rfl) ?_
  refine TO.s rfl rfl rfl (StepS.fld rfl kfieldB_176_0_0_true) ?_
  refine TO.s rfl rfl rfl (StepS.ldB rfl (Ent.at 0 rfl) kscalB_174_true rfl) ?_
  refine TO.s rfl rfl rfl (StepS.move rfl) ?_
  obtain ⟨x5, hx6, hm⟩ := bind_some hm
  refine TO.s rfl rfl rfl (StepS.idx rfl rfl (OwnS.rd (Ent.at 1 rfl)) ksliceB_174_178_5_true (idx_spec hx6).1 (idxm_lt hx6)) ?_
  refine TO.s rfl rfl rfl (StepS.assign rfl) ?_
  refine TO.code ?_
  refine TC.k ?_
  refine TC.k ?_
  refine TC.region ?_
  refine TO.s rfl rfl rfl (StepS.move rfl) ?_
  refine TO.s rfl rfl rfl (StepS.nilc rfl) ?_
  refine TO.s rfl rfl rfl (StepS.ptrf rfl kfieldB_178_2_2_true) ?_
  refine TO.s rfl rfl rfl (StepS.ld1 rfl (OwnS.rd (Ent.at 1 rfl)) kscalB_4_true rfl (idxm hx6) rfl) ?_
  refine TO.s rfl rfl rfl (StepS.move rfl) ?_
  refine TO.mid1 6 23 (.bool (x5.2.2.1 || (decide (x5.2.1 > 0)))) ?_ ?_
  · refine bcase (x5.2.2.1) (fun hb7 => ?_) (fun hb7 => ?_)
    · refine TO.skip rfl rfl rfl (skipT hb7) rfl rfl ?_
      refine TO.skip rfl rfl rfl (skipT hb7) rfl rfl ?_
      refine TO.skip rfl rfl rfl (skipT hb7) rfl rfl ?_
      refine TO.skip rfl rfl rfl (skipT hb7) rfl rfl ?_
      refine TO.skip rfl rfl rfl (skipT hb7) rfl rfl ?_
      refine TO.s rfl rfl rfl (StepS.pickT rfl hb7 rfl) ?_
      exact TO.up1 6 0 rfl rfl (by rw [hb7]; rfl) rfl
    · refine TO.sw rfl rfl rfl hb7 rfl rfl (StepS.move rfl) ?_
      refine TO.sw rfl rfl rfl hb7 rfl rfl (StepS.nilc rfl) ?_
      refine TO.sw rfl rfl rfl hb7 rfl rfl (StepS.ptrf rfl kfieldB_178_1_1_true) ?_
      refine TO.sw rfl rfl rfl hb7 rfl rfl (StepS.ld1 rfl (OwnS.rd (Ent.at 1 rfl)) kscalB_3_true rfl (idxm hx6) rfl) ?_
      refine TO.sw rfl rfl rfl hb7 rfl rfl (StepS.cmp rfl rfl rfl) ?_
      refine TO.s rfl rfl rfl (StepS.pickF rfl hb7 rfl) ?_
      exact TO.up1 6 0 rfl rfl (by rw [hb7]; rfl) rfl
  refine TO.code ?_
  refine TC.cond rfl (fun hc8 => ?_) (fun hc8 => ?_)
  · replace hm := cond_t hc8 hm
    refine TC.k ?_
    refine TC.region ?_
    refine TO.s rfl rfl rfl (StepS.assign rfl) ?_
    refine TO.code ?_
    cases hm
    refine TC.ret fun a w e s => ?_
    refine FRet.mk1 (P := Try.prog) (fn := Try.f104) (t := 4) e rfl rfl ?_
    refine ⟨_, _, rfl, ⟨h0_2, h0_3, rfl, rfl⟩, ?_⟩
    refine s.mono fun _ s => ?_
    replace s := Sat.front 2 rfl s
    replace s := Sat.front 2 rfl s
    replace s := Sat.front 2 rfl s
    exact s
  · replace hm := cond_f hc8 hm
    refine TC.skipk ?_
    refine TC.k ?_
    refine TC.region ?_
    refine TO.s rfl rfl rfl (StepS.move rfl) ?_
    refine TO.s rfl rfl rfl (StepS.nilc rfl) ?_
    refine TO.s rfl rfl rfl (StepS.ptrf rfl kfieldB_178_0_0_true) ?_
    refine TO.s rfl rfl rfl (StepS.ld1 rfl (OwnS.rd (Ent.at 1 rfl)) kscalB_3_true rfl (idxm hx6) rfl) ?_
    refine TO.s rfl rfl rfl (StepS.ari rfl rfl rfl) ?_
    refine TO.s rfl rfl rfl (StepS.nilc rfl) ?_
    refine TO.s rfl rfl rfl (StepS.ptrf rfl kfieldB_178_0_0_true) ?_
    refine TO.stO (i := a1.toNat) (off := 0) (us := [I (w64 (x5.1 + 1))]) 1 (w64 (x5.1 + 1), x5.2.1, x5.2.2.1, x5.2.2.2.1, x5.2.2.2.2) rfl rfl rfl ksizeB_3_1_true rfl rfl rfl (idx_spec hx6).2 rfl (by simp [Value.oneCell']) rfl ?_
    refine TO.code ?_
    refine TC.k ?_
    refine TC.region ?_
    refine TO.s rfl rfl rfl (StepS.move rfl) ?_
    refine TO.s rfl rfl rfl (StepS.move rfl) ?_
    refine TO.s rfl rfl rfl (StepS.move rfl) ?_
    refine TO.s rfl rfl rfl (StepS.nilc rfl) ?_
    refine TO.s rfl rfl rfl (StepS.ptrf rfl kfieldB_178_0_0_true) ?_
    obtain ⟨x9, hx10, hm⟩ := bind_some hm
    refine TO.s rfl rfl rfl (StepS.ld1 rfl (OwnS.rd (Ent.at 1 rfl)) kscalB_3_true rfl (idxm hx10) rfl) ?_
    refine TO.s rfl rfl rfl (StepS.nilc rfl) ?_
    refine TO.s rfl rfl rfl (StepS.ptrf rfl kfieldB_178_1_1_true) ?_
    obtain ⟨x11, hx12, hm⟩ := bind_some hm
    refine TO.stO (i := a1.toNat) (off := 1) (us := [I x9.1]) 1 (x11.1, x9.1, x11.2.2.1, x11.2.2.2.1, x11.2.2.2.2) rfl rfl rfl ksizeB_3_1_true rfl rfl rfl (idx_spec hx12).2 rfl (by simp [Value.oneCell']) rfl ?_
    refine TO.s rfl rfl rfl (StepS.nilc rfl) ?_
    refine TO.s rfl rfl rfl (StepS.ptrf rfl kfieldB_178_3_3_true) ?_
    obtain ⟨x13, hx14, hm⟩ := bind_some hm
    refine TO.stO (i := a1.toNat) (off := 3) (us := [U (0#32)]) 1 (x13.1, x13.2.1, x13.2.2.1, 0#32, x13.2.2.2.2) rfl rfl rfl ksizeB_36_1_true rfl rfl rfl (idx_spec hx14).2 rfl (by simp [Value.oneCell']) rfl ?_
    refine TO.code ?_
    refine TC.k ?_
    refine TC.k ?_
    refine TC.region ?_
    refine TO.s rfl rfl rfl (StepS.move rfl) ?_
    refine TO.s rfl rfl rfl (StepS.nilc rfl) ?_
    refine TO.s rfl rfl rfl (StepS.fld rfl kfieldB_176_0_0_true) ?_
    refine TO.s rfl rfl rfl (StepS.ldB rfl (Ent.at 0 rfl) kscalB_174_true rfl) ?_
    refine TO.s rfl rfl rfl (StepS.lenm rfl (OwnS.rd (Ent.at 1 rfl)) ksliceB_174_178_5_true rfl) ?_
    refine TO.s rfl rfl rfl (StepS.move rfl) ?_
    refine TO.code ?_
    obtain ⟨o29, hw30, hm⟩ := bind_some hm
    refine TC.loop hw30 (fun (y17, x19) => fun a w => ∃ r16 : Nat, ∃ hs18 : (Int × Int) → Value, Mid 64 B [(0, .pointer (some ⟨b0_, 0, none⟩)), (1, I a1), (5, ptr h0_1 (a1.toNat * 5)), (45, I ((((a0.1.set a1.toNat (w64 (x5.1 + 1), x5.2.1, x5.2.2.1, x5.2.2.2.1, x5.2.2.2.2)).set a1.toNat (x11.1, x9.1, x11.2.2.1, x11.2.2.2.1, x11.2.2.2.2)).set a1.toNat (x13.1, x13.2.1, x13.2.2.1, 0#32, x13.2.2.2.2)).length : Int)), (46, I x19)] (MS (fun k : Int × Int => .agg #[I k.1, I k.2]) 3 1 cI r16 hs18 (y17) :: Bx b0_ 176 [h0_1, .map (some r16)] :: OwnS 178 5 h0_1 ((((a0.1.set a1.toNat (w64 (x5.1 + 1), x5.2.1, x5.2.2.1, x5.2.2.2.1, x5.2.2.2.2)).set a1.toNat (x11.1, x9.1, x11.2.2.1, x11.2.2.2.1, x11.2.2.2.2)).set a1.toNat (x13.1, x13.2.1, x13.2.2.1, 0#32, x13.2.2.2.2)).map cTiibiu32iu32) :: L) a w) (fun y27 => fun a w => ∃ r26 : Nat, ∃ hs28 : (Int × Int) → Value, Mid 64 B [(0, .pointer (some ⟨b0_, 0, none⟩)), (1, I a1)] (MS (fun k : Int × Int => .agg #[I k.1, I k.2]) 3 1 cI r26 hs28 (y27) :: Bx b0_ 176 [h0_1, .map (some r26)] :: OwnS 178 5 h0_1 ((((a0.1.set a1.toNat (w64 (x5.1 + 1), x5.2.1, x5.2.2.1, x5.2.2.2.1, x5.2.2.2.2)).set a1.toNat (x11.1, x9.1, x11.2.2.1, x11.2.2.2.1, x11.2.2.2.2)).set a1.toNat (x13.1, x13.2.1, x13.2.2.1, 0#32, x13.2.2.2.2)).map cTiibiu32iu32) :: L) a w) (fun (_ : Unit) _ _ => False) ?_ ?_ ?_ ?_
    · rintro ⟨y17, x19⟩ o29r hb31 a w ⟨r16, hs18, he, hs⟩
      dsimp only [F104_L0] at hb31
      refine TC.use ?_ he hs
      refine TC.k ?_
      refine TC.region ?_
      refine TO.s rfl rfl rfl (StepS.cmp rfl rfl rfl) ?_
      refine TO.code ?_
      refine TC.k ?_
      refine TC.cond rfl (fun hc32 => ?_) (fun hc32 => ?_)
      · replace hb31 := cond_t hc32 hb31
        refine TC.skipk ?_
        refine TC.k ?_
        obtain ⟨y35, hj37, hb31⟩ := bind_some hb31
        first | refine TC.cutM (fun a w => ∃ r34 : Nat, ∃ hs36 : (Int × Int) → Value, Mid 64 B [(0, .pointer (some ⟨b0_, 0, none⟩)), (1, I a1), (5, ptr h0_1 (a1.toNat * 5)), (45, I ((((a0.1.set a1.toNat (w64 (x5.1 + 1), x5.2.1, x5.2.2.1, x5.2.2.2.1, x5.2.2.2.2)).set a1.toNat (x11.1, x9.1, x11.2.2.1, x11.2.2.2.1, x11.2.2.2.2)).set a1.toNat (x13.1, x13.2.1, x13.2.2.1, 0#32, x13.2.2.2.2)).length : Int)), (46, I x19)] (MS (fun k : Int × Int => .agg #[I k.1, I k.2]) 3 1 cI r34 hs36 (y35) :: Bx b0_ 176 [h0_1, .map (some r34)] :: OwnS 178 5 h0_1 ((((a0.1.set a1.toNat (w64 (x5.1 + 1), x5.2.1, x5.2.2.1, x5.2.2.2.1, x5.2.2.2.2)).set a1.toNat (x11.1, x9.1, x11.2.2.1, x11.2.2.2.1, x11.2.2.2.2)).set a1.toNat (x13.1, x13.2.1, x13.2.2.1, 0#32, x13.2.2.2.2)).map cTiibiu32iu32) :: L) a w) ?_ ?_ | refine TC.cutX (fun a w => ∃ r34 : Nat, ∃ hs36 : (Int × Int) → Value, Mid 64 B [(0, .pointer (some ⟨b0_, 0, none⟩)), (1, I a1), (5, ptr h0_1 (a1.toNat * 5)), (45, I ((((a0.1.set a1.toNat (w64 (x5.1 + 1), x5.2.1, x5.2.2.1, x5.2.2.2.1, x5.2.2.2.2)).set a1.toNat (x11.1, x9.1, x11.2.2.1, x11.2.2.2.1, x11.2.2.2.2)).set a1.toNat (x13.1, x13.2.1, x13.2.2.1, 0#32, x13.2.2.2.2)).length : Int)), (46, I x19)] (MS (fun k : Int × Int => .agg #[I k.1, I k.2]) 3 1 cI r34 hs36 (y35) :: Bx b0_ 176 [h0_1, .map (some r34)] :: OwnS 178 5 h0_1 ((((a0.1.set a1.toNat (w64 (x5.1 + 1), x5.2.1, x5.2.2.1, x5.2.2.2.1, x5.2.2.2.2)).set a1.toNat (x11.1, x9.1, x11.2.2.1, x11.2.2.2.1, x11.2.2.2.2)).set a1.toNat (x13.1, x13.2.1, x13.2.2.1, 0#32, x13.2.2.2.2)).map cTiibiu32iu32) :: L) a w) ?_ ?_
        · refine TC.block ?_
          refine TC.k ?_
          refine TC.region ?_
          refine TO.s rfl rfl rfl (StepS.move rfl) ?_
          refine TO.s rfl rfl rfl (StepS.assign rfl) ?_
          refine TO.code ?_
          refine TC.k ?_
          refine TC.region ?_
          refine TO.s rfl rfl rfl (StepS.move rfl) ?_
          refine TO.s rfl rfl rfl (StepS.move rfl) ?_
          refine TO.s rfl rfl rfl (StepS.cmp rfl rfl rfl) ?_
          refine TO.code ?_
          refine TC.cond rfl (fun hc38 => ?_) (fun hc38 => ?_)
          · replace hj37 := cond_t hc38 hj37
            refine TC.region ?_
            refine TO.s rfl rfl rfl (StepS.move rfl) ?_
            refine TO.s rfl rfl rfl (StepS.move rfl) ?_
            refine TO.s rfl rfl rfl (StepS.move rfl) ?_
            refine TO.s rfl rfl rfl (StepS.move rfl) ?_
            refine TO.s rfl rfl rfl (StepS.nilc rfl) ?_
            refine TO.s rfl rfl rfl (StepS.ptrf rfl kfieldB_178_1_1_true) ?_
            obtain ⟨x39, hx40, hj37⟩ := bind_some hj37
            refine TO.s rfl rfl rfl (StepS.ld1 rfl (OwnS.rd (Ent.at 2 rfl)) kscalB_3_true rfl (idxm hx40) rfl) ?_
            refine TO.ghost (fun _ s => Sat.front 1 rfl s) ?_
            obtain ⟨r41, hc42, hj37⟩ := bind_some hj37
            refine TO.callO kcallB_134_true rfl rfl rfl (fun _ st => C134 (a0 := y17)  hc42 st) ?_
            rintro _ _ ⟨r43, hd44, rfl, rfl⟩
            cases hj37
            refine TO.nil fun a w e s => ?_
            exact ⟨r43, hd44, e.sub (lk_of_allIn ⟨rfl, rfl, rfl, rfl, rfl, trivial⟩), s.mono fun _ s => (by exact Sat.by [2, 1, 2] 3 0 (by kernel_rfl) s)⟩
          · replace hj37 := cond_f hc38 hj37
            cases hj37
            refine TC.skip fun a w e s => ?_
            exact ⟨r16, hs18, e.sub (lk_of_allIn ⟨rfl, rfl, rfl, rfl, rfl, trivial⟩), s⟩
        · intro a w ⟨r34, hs36, he, hs⟩
          refine TC.use ?_ he hs
          refine TC.region ?_
          refine TO.s rfl rfl rfl (StepS.ari rfl rfl rfl) ?_
          refine TO.s rfl rfl rfl (StepS.move rfl) ?_
          cases hb31
          refine TO.nil fun a w e s => ?_
          exact ⟨r34, hs36, e.sub (lk_of_allIn ⟨rfl, rfl, rfl, rfl, rfl, trivial⟩), s⟩
      · replace hb31 := cond_f hc32 hb31
        cases hb31
        refine TC.exit rfl fun a w e s => ?_
        exact ⟨r16, hs18, e.sub (lk_of_allIn ⟨rfl, rfl, trivial⟩), s⟩
    · exact fun a w e s => ⟨h0_2, h0_3, e.sub (lk_of_allIn ⟨rfl, rfl, rfl, rfl, rfl, trivial⟩), s.mono fun _ s => (by exact Sat.by [1, 1, 2] 3 0 (by kernel_rfl) s)⟩
    · rintro y27 rfl a w ⟨r26, hs28, he, hs⟩
      dsimp only [Ctl.on] at hm
      refine TC.use ?_ he hs
      refine TC.k ?_
      refine TC.region ?_
      refine TO.s rfl rfl rfl (StepS.move rfl) ?_
      refine TO.s rfl rfl rfl (StepS.move rfl) ?_
      refine TO.ghost (fun _ s => Sat.front 2 rfl s) ?_
      refine TO.ghost (fun _ s => Sat.front 2 rfl s) ?_
      obtain ⟨r46, hc47, hm⟩ := bind_some hm
      refine TO.callO kcallB_135_true rfl rfl rfl (fun _ st => C135 (a0 := (((a0.1.set a1.toNat (w64 (x5.1 + 1), x5.2.1, x5.2.2.1, x5.2.2.2.1, x5.2.2.2.2)).set a1.toNat (x11.1, x9.1, x11.2.2.1, x11.2.2.2.1, x11.2.2.2.2)).set a1.toNat (x13.1, x13.2.1, x13.2.2.1, 0#32, x13.2.2.2.2)))  hc47 st) ?_
      rintro _ _ ⟨rfl, rfl⟩
      refine TO.code ?_
      refine TC.k ?_
      refine TC.region ?_
      refine TO.s rfl rfl rfl (StepS.assign rfl) ?_
      refine TO.code ?_
      cases hm
      refine TC.ret fun a w e s => ?_
      refine FRet.mk1 (P := Try.prog) (fn := Try.f104) (t := 4) e rfl rfl ?_
      refine ⟨_, _, rfl, ⟨r26, hs28, rfl, rfl⟩, ?_⟩
      refine s.mono fun _ s => ?_
      replace s := Sat.front 2 rfl s
      replace s := Sat.front 2 rfl s
      replace s := Sat.front 2 rfl s
      exact s
    · rintro r rfl
      exact fun a w h => h.elim

set_option maxRecDepth 100000 in
theorem C105 {B : World} {L : List HP} {a0 : (List (Int × Int × Bool × (BitVec 32) × BitVec 32)) × ((Int × Int) → Option (List Int))} {a1 : Int} {a2 : Int} {b0_ : Nat} {h0_1 : Value} {h0_2 : Nat} {h0_3 : (Int × Int) → Value} {r0 : Int} {s0 : (List (Int × Int × Bool × (BitVec 32) × BitVec 32)) × ((Int × Int) → Option (List Int))} (hm : F105 a0 a1 a2 = some (r0, s0)) {w : World} (st : St B (Bx b0_ 176 [h0_1, .map (some h0_2)] :: OwnS 178 5 h0_1 (a0.1.map cTiibiu32iu32) :: MS (fun k : Int × Int => .agg #[I k.1, I k.2]) 3 1 cI h0_2 h0_3 (a0.2) :: L) w) : Calls Try.prog 105 #[.pointer (some ⟨b0_, 0, none⟩), I a1, I a2] w (fun e w' => ∃ v M, e = .returned v ∧ (∃ (qr1 : Nat) (qhd2 : (Int × Int) → Value), v = I r0 ∧ M = (Bx b0_ 176 [h0_1, .map (some qr1)] :: OwnS 178 5 h0_1 (s0.1.map cTiibiu32iu32) :: MS (fun k : Int × Int => .agg #[I k.1, I k.2]) 3 1 cI qr1 qhd2 (s0.2) :: L)) ∧ St B M w') := by
  refine calls_of (N := 115) (L := (Bx b0_ 176 [h0_1, .map (some h0_2)] :: OwnS 178 5 h0_1 (a0.1.map cTiibiu32iu32) :: MS (fun k : Int × Int => .agg #[I k.1, I k.2]) 3 1 cI h0_2 h0_3 (a0.2) :: L)) (args := [.pointer (some ⟨b0_, 0, none⟩), I a1, I a2]) Try.func105 rfl rfl rfl ?_ st
  dsimp only [F105] at hm
  refine TC.k ?_
  refine TC.region ?_
  refine TO.s rfl rfl rfl (StepS.assign rfl) ?_
  refine TO.code ?_
  refine TC.k ?_
  refine TC.region ?_
  refine TO.s rfl rfl rfl (StepS.move rfl) ?_
  refine TO.s rfl rfl rfl (StepS.move rfl) ?_
  refine TO.s rfl rfl rfl (StepS.build (cs := [I a1, I a2]) rfl (by kernel_rfl)) ?_
  refine TO.alloc kinfo_114_bind_zero_some_agg_I_0_I_0 rfl rfl fun b5 => ?_
  refine TO.stB (us := [I a1, I a2]) 0 [I a1, I a2] rfl rfl rfl ksizeB_114_2_true rfl rfl rfl (by simp [Value.oneCell']) rfl ?_
  refine TO.code ?_
  refine TC.k ?_
  refine TC.k ?_
  refine TC.region_still kfollows_mixedOrders_true (by kernel_rfl) ?_
  refine TS.s rfl rfl rfl (StepS.move rfl) ?_
  refine TS.s rfl rfl rfl (StepS.nilc rfl) ?_
  refine TS.s rfl rfl rfl (StepS.fld rfl kfieldB_176_1_1_true) ?_
  refine TS.s rfl rfl rfl (StepS.ldB rfl (Ent.at 1 rfl) kscalB_131_true rfl) ?_
  refine TS.s rfl rfl rfl (StepS.ldBA rfl (Ent.at 0 rfl) kaggB_114_2_true rfl rfl) ?_
  refine TS.s rfl rfl rfl (StepS.lookMS (k := (a1, a2)) kmapGB_131_114_22_true (KeyOk.pair kunderlying_114_some_array_2_3 kunderlying_3_some_int_i64 ksizeB_3_1_true kscalB_3_true) kinfo_22_bind_zero_some_slice_none_0_0 rfl (Ent.at 3 rfl) rfl) ?_
  refine TS.s rfl rfl rfl (StepS.lenm rfl (MS.row (k := (a1, a2)) (Ent.at 3 rfl)) ksliceB_22_3_1_true rfl) ?_
  refine TS.s rfl rfl rfl (StepS.cmp rfl rfl rfl) ?_
  refine TS.code ?_
  refine TC.cond rfl (fun hc6 => ?_) (fun hc6 => ?_)
  · replace hm := cond_t hc6 hm
    refine TC.k ?_
    refine TC.region ?_
    refine TO.s rfl rfl rfl (StepS.assign rfl) ?_
    refine TO.code ?_
    cases hm
    refine TC.ret fun a w e s => ?_
    refine FRet.mk1 (P := Try.prog) (fn := Try.f105) (t := 6) e rfl rfl ?_
    refine ⟨_, _, rfl, ⟨h0_2, h0_3, rfl, rfl⟩, ?_⟩
    refine s.mono fun _ s => ?_
    replace s := Sat.front 3 rfl s
    replace s := Sat.front 3 rfl s
    replace s := Sat.front 3 rfl s
    replace s := Sat.erase 3 s
    exact s
  · replace hm := cond_f hc6 hm
    refine TC.skipk ?_
    refine TC.k ?_
    refine TC.region_still kfollows_mixedOrders_true (by kernel_rfl) ?_
    refine TS.s rfl rfl rfl (StepS.move rfl) ?_
    refine TS.s rfl rfl rfl (StepS.nilc rfl) ?_
    refine TS.s rfl rfl rfl (StepS.fld rfl kfieldB_176_1_1_true) ?_
    refine TS.s rfl rfl rfl (StepS.ldB rfl (Ent.at 1 rfl) kscalB_131_true rfl) ?_
    refine TS.s rfl rfl rfl (StepS.ldBA rfl (Ent.at 0 rfl) kaggB_114_2_true rfl rfl) ?_
    refine TS.s rfl rfl rfl (StepS.lookMS (k := (a1, a2)) kmapGB_131_114_22_true (KeyOk.pair kunderlying_114_some_array_2_3 kunderlying_3_some_int_i64 ksizeB_3_1_true kscalB_3_true) kinfo_22_bind_zero_some_slice_none_0_0 rfl (Ent.at 3 rfl) rfl) ?_
    obtain ⟨x7, hx8, hm⟩ := bind_some hm
    refine TS.s rfl rfl rfl (StepS.idx rfl rfl (MS.row (k := (a1, a2)) (Ent.at 3 rfl)) ksliceB_22_3_1_true (idx_spec hx8).1 (idxm_lt hx8)) ?_
    refine TS.s rfl rfl rfl (StepS.ld0 rfl (MS.row (k := (a1, a2)) (Ent.at 3 rfl)) kscalB_3_true rfl (idxm hx8) rfl) ?_
    refine TS.s rfl rfl rfl (StepS.assign rfl) ?_
    refine TS.code ?_
    refine TC.k ?_
    refine TC.region_tail 12 kfollows_mixedOrders_true (by kernel_rfl) ?_
    refine TS.s rfl rfl rfl (StepS.move rfl) ?_
    refine TS.s rfl rfl rfl (StepS.nilc rfl) ?_
    refine TS.s rfl rfl rfl (StepS.fld rfl kfieldB_176_1_1_true) ?_
    refine TS.s rfl rfl rfl (StepS.ldB rfl (Ent.at 1 rfl) kscalB_131_true rfl) ?_
    refine TS.s rfl rfl rfl (StepS.ldBA rfl (Ent.at 0 rfl) kaggB_114_2_true rfl rfl) ?_
    refine TS.s rfl rfl rfl (StepS.move rfl) ?_
    refine TS.s rfl rfl rfl (StepS.nilc rfl) ?_
    refine TS.s rfl rfl rfl (StepS.fld rfl kfieldB_176_1_1_true) ?_
    refine TS.s rfl rfl rfl (StepS.ldB rfl (Ent.at 1 rfl) kscalB_131_true rfl) ?_
    refine TS.s rfl rfl rfl (StepS.ldBA rfl (Ent.at 0 rfl) kaggB_114_2_true rfl rfl) ?_
    refine TS.s rfl rfl rfl (StepS.lookMS (k := (a1, a2)) kmapGB_131_114_22_true (KeyOk.pair kunderlying_114_some_array_2_3 kunderlying_3_some_int_i64 ksizeB_3_1_true kscalB_3_true) kinfo_22_bind_zero_some_slice_none_0_0 rfl (Ent.at 3 rfl) rfl) ?_
    obtain ⟨y9, hs10, hm⟩ := bind_some hm
    obtain ⟨hs10a, hs10b, hs10c, _⟩ := slI_spec hs10
    refine TS.s rfl rfl rfl (StepS.slc rfl (MS.row (k := (a1, a2)) (Ent.at 3 rfl)) ksliceB_22_3_1_true rfl (by simp [bnd]) hs10a hs10b (by simpa using hs10c)) ?_
    refine TS.nil ?_
    refine TO.at ?_
    refine TO.ghost (fun _ s => Sat.front 3 rfl s) ?_
    refine TO.ghost (fun _ s => Sat.openMS (a1, a2) s) ?_
    refine TO.ghost (fun _ s => Sat.cutF 0 rfl hs10 s) ?_
    refine TO.ghost (fun _ s => Sat.front 1 rfl s) ?_
    refine TO.msetS (k := (a1, a2)) (ys := y9) kmapGB_131_114_22_true (KeyOk.pair kunderlying_114_some_array_2_3 kunderlying_3_some_int_i64 ksizeB_3_1_true kscalB_3_true) rfl rfl rfl fun hs13 => ?_
    refine TO.code ?_
    refine TC.k ?_
    refine TC.region ?_
    refine TO.s rfl rfl rfl (StepS.move rfl) ?_
    refine TO.s rfl rfl rfl (StepS.nilc rfl) ?_
    refine TO.s rfl rfl rfl (StepS.fld rfl kfieldB_176_0_0_true) ?_
    refine TO.s rfl rfl rfl (StepS.ldB rfl (Ent.at 2 rfl) kscalB_174_true rfl) ?_
    refine TO.s rfl rfl rfl (StepS.move rfl) ?_
    obtain ⟨x14, hx15, hm⟩ := bind_some hm
    refine TO.s rfl rfl rfl (StepS.idx rfl rfl (OwnS.rd (Ent.at 3 rfl)) ksliceB_174_178_5_true (idx_spec hx15).1 (idxm_lt hx15)) ?_
    refine TO.s rfl rfl rfl (StepS.assign rfl) ?_
    refine TO.code ?_
    refine TC.k ?_
    refine TC.k ?_
    refine TC.region ?_
    refine TO.s rfl rfl rfl (StepS.move rfl) ?_
    refine TO.s rfl rfl rfl (StepS.cmp rfl rfl rfl) ?_
    refine TO.code ?_
    refine TC.cond rfl (fun hc16 => ?_) (fun hc16 => ?_)
    · replace hm := cond_t hc16 hm
      refine TC.k ?_
      refine TC.region_tail 9 kfollows_mixedOrders_true (by kernel_rfl) ?_
      refine TS.s rfl rfl rfl (StepS.move rfl) ?_
      refine TS.s rfl rfl rfl (StepS.nilc rfl) ?_
      refine TS.s rfl rfl rfl (StepS.ptrf rfl kfieldB_178_3_3_true) ?_
      refine TS.s rfl rfl rfl (StepS.ld1 rfl (OwnS.rd (Ent.at 3 rfl)) kscalB_36_true rfl (idxm hx15) rfl) ?_
      refine TS.s rfl rfl rfl (StepS.move rfl) ?_
      obtain ⟨k17, hk18, hm⟩ := bind_some hm
      refine TS.s rfl rfl rfl (StepS.shlk (m := 1#32) rfl rfl hk18) ?_
      refine TS.s rfl rfl rfl (StepS.bitU rfl rfl rfl) ?_
      refine TS.s rfl rfl rfl (StepS.nilc rfl) ?_
      refine TS.s rfl rfl rfl (StepS.ptrf rfl kfieldB_178_3_3_true) ?_
      refine TS.nil ?_
      refine TO.at ?_
      refine TO.stO (i := a2.toNat) (off := 3) (us := [U (x14.2.2.2.1 ||| ((1#32) <<< k17))]) 3 (x14.1, x14.2.1, x14.2.2.1, (x14.2.2.2.1 ||| ((1#32) <<< k17)), x14.2.2.2.2) rfl rfl rfl ksizeB_36_1_true rfl rfl rfl (idx_spec hx15).2 rfl (by simp [Value.oneCell']) rfl ?_
      refine TO.code ?_
      refine TC.k ?_
      refine TC.region ?_
      refine TO.s rfl rfl rfl (StepS.move rfl) ?_
      refine TO.s rfl rfl rfl (StepS.move rfl) ?_
      refine TO.ghost (fun _ s => Sat.front 3 rfl s) ?_
      refine TO.ghost (fun _ s => Sat.front 3 rfl s) ?_
      obtain ⟨r19, hc20, hm⟩ := bind_some hm
      refine TO.callO kcallB_135_true rfl rfl rfl (fun _ st => C135 (a0 := (a0.1.set a2.toNat (x14.1, x14.2.1, x14.2.2.1, (x14.2.2.2.1 ||| ((1#32) <<< k17)), x14.2.2.2.2)))  hc20 st) ?_
      rintro _ _ ⟨rfl, rfl⟩
      refine TO.code ?_
      refine TC.k ?_
      refine TC.region ?_
      refine TO.s rfl rfl rfl (StepS.assign rfl) ?_
      refine TO.code ?_
      cases hm
      refine TC.ret fun a w e s => ?_
      refine FRet.mk1 (P := Try.prog) (fn := Try.f105) (t := 6) e rfl rfl ?_
      refine ⟨_, _, rfl, ⟨h0_2, hs13, rfl, rfl⟩, ?_⟩
      refine s.mono fun _ s => ?_
      replace s := Sat.front 2 rfl s
      replace s := Sat.front 2 rfl s
      replace s := Sat.front 2 rfl s
      replace s := Sat.erase 3 s
      exact s
    · replace hm := cond_f hc16 hm
      refine TC.skipk ?_
      refine TC.k ?_
      refine TC.region ?_
      refine TO.s rfl rfl rfl (StepS.move rfl) ?_
      refine TO.s rfl rfl rfl (StepS.move rfl) ?_
      refine TO.s rfl rfl rfl (StepS.nilc rfl) ?_
      refine TO.s rfl rfl rfl (StepS.ptrf rfl kfieldB_178_0_0_true) ?_
      refine TO.s rfl rfl rfl (StepS.ld1 rfl (OwnS.rd (Ent.at 3 rfl)) kscalB_3_true rfl (idxm hx15) rfl) ?_
      refine TO.s rfl rfl rfl (StepS.move rfl) ?_
      refine TO.s rfl rfl rfl (StepS.max2 rfl rfl) ?_
      refine TO.s rfl rfl rfl (StepS.nilc rfl) ?_
      refine TO.s rfl rfl rfl (StepS.ptrf rfl kfieldB_178_0_0_true) ?_
      refine TO.stO (i := a2.toNat) (off := 0) (us := [I (mx x14.1 x7)]) 3 (mx x14.1 x7, x14.2.1, x14.2.2.1, x14.2.2.2.1, x14.2.2.2.2) rfl rfl rfl ksizeB_3_1_true rfl rfl rfl (idx_spec hx15).2 rfl (by simp [Value.oneCell']) rfl ?_
      refine TO.code ?_
      refine TC.k ?_
      refine TC.k ?_
      refine TC.region ?_
      refine TO.s rfl rfl rfl (StepS.move rfl) ?_
      refine TO.s rfl rfl rfl (StepS.nilc rfl) ?_
      refine TO.s rfl rfl rfl (StepS.ptrf rfl kfieldB_178_2_2_true) ?_
      obtain ⟨x22, hx23, hm⟩ := bind_some hm
      refine TO.s rfl rfl rfl (StepS.ld1 rfl (OwnS.rd (Ent.at 3 rfl)) kscalB_4_true rfl (idxm hx23) rfl) ?_
      refine TO.s rfl rfl rfl (StepS.move rfl) ?_
      obtain ⟨b25, hj26, hm⟩ := bind_some hm
      refine TO.mid1 27 101 (.bool b25) ?_ ?_
      · refine bcase (x22.2.2.1) (fun hb24 => ?_) (fun hb24 => ?_)
        · replace hj26 := cond_t hb24 hj26
          cases hj26
          refine TO.skip rfl rfl rfl (skipT hb24) rfl rfl ?_
          refine TO.skip rfl rfl rfl (skipT hb24) rfl rfl ?_
          refine TO.skip rfl rfl rfl (skipT hb24) rfl rfl ?_
          refine TO.skip rfl rfl rfl (skipT hb24) rfl rfl ?_
          refine TO.skip rfl rfl rfl (skipT hb24) rfl rfl ?_
          refine TO.skip rfl rfl rfl (skipT hb24) rfl rfl ?_
          refine TO.skip rfl rfl rfl skipU rfl rfl ?_
          refine TO.skip rfl rfl rfl skipU rfl rfl ?_
          refine TO.skip rfl rfl rfl skipU rfl rfl ?_
          refine TO.skip rfl rfl rfl skipU rfl rfl ?_
          refine TO.skip rfl rfl rfl skipU rfl rfl ?_
          refine TO.skip rfl rfl rfl skipU rfl rfl ?_
          refine TO.skip rfl rfl rfl skipU rfl rfl ?_
          refine TO.skip rfl rfl rfl skipU rfl rfl ?_
          refine TO.skip rfl rfl rfl skipU rfl rfl ?_
          refine TO.skip rfl rfl rfl skipU rfl rfl ?_
          refine TO.skip rfl rfl rfl skipU rfl rfl ?_
          refine TO.skip rfl rfl rfl skipU rfl rfl ?_
          refine TO.skip rfl rfl rfl skipU rfl rfl ?_
          refine TO.skip rfl rfl rfl skipU rfl rfl ?_
          refine TO.skip rfl rfl rfl skipU rfl rfl ?_
          refine TO.skip rfl rfl rfl skipU rfl rfl ?_
          refine TO.skip rfl rfl rfl skipU rfl rfl ?_
          refine TO.skip rfl rfl rfl skipU rfl rfl ?_
          refine TO.skip rfl rfl rfl skipU rfl rfl ?_
          refine TO.skip rfl rfl rfl (skipT hb24) rfl rfl ?_
          refine TO.s rfl rfl rfl (StepS.pickT rfl hb24 rfl) ?_
          exact TO.up1 27 0 rfl rfl rfl rfl
        · replace hj26 := cond_f hb24 hj26
          refine TO.sw rfl rfl rfl hb24 rfl rfl (StepS.move rfl) ?_
          refine TO.sw rfl rfl rfl hb24 rfl rfl (StepS.nilc rfl) ?_
          refine TO.sw rfl rfl rfl hb24 rfl rfl (StepS.ptrf rfl kfieldB_178_1_1_true) ?_
          obtain ⟨x27, hx28, hj26⟩ := bind_some hj26
          refine TO.sw rfl rfl rfl hb24 rfl rfl (StepS.ld1 rfl (OwnS.rd (Ent.at 3 rfl)) kscalB_3_true rfl (idxm hx28) rfl) ?_
          refine TO.sw rfl rfl rfl hb24 rfl rfl (StepS.cmp rfl rfl rfl) ?_
          refine TO.sw rfl rfl rfl hb24 rfl rfl (StepS.move rfl) ?_
          obtain ⟨b30, hj31, hj26⟩ := bind_some hj26
          refine TO.mid1 20 100 (.bool b30) ?_ ?_
          · refine bcase ((decide (x27.2.1 > 0))) (fun hb29 => ?_) (fun hb29 => ?_)
            · replace hj31 := cond_t hb29 hj31
              refine TO.sw rfl rfl rfl hb29 rfl rfl (StepS.move rfl) ?_
              refine TO.sw rfl rfl rfl hb29 rfl rfl (StepS.nilc rfl) ?_
              refine TO.sw rfl rfl rfl hb29 rfl rfl (StepS.ptrf rfl kfieldB_178_1_1_true) ?_
              obtain ⟨x32, hx33, hj31⟩ := bind_some hj31
              refine TO.sw rfl rfl rfl hb29 rfl rfl (StepS.ld1 rfl (OwnS.rd (Ent.at 3 rfl)) kscalB_3_true rfl (idxm hx33) rfl) ?_
              refine TO.sw rfl rfl rfl hb29 rfl rfl (StepS.move rfl) ?_
              refine TO.sw rfl rfl rfl hb29 rfl rfl (StepS.cmp rfl rfl rfl) ?_
              refine TO.sw rfl rfl rfl hb29 rfl rfl (StepS.move rfl) ?_
              obtain ⟨b35, hj36, hj31⟩ := bind_some hj31
              refine TO.mid1 12 99 (.bool b35) ?_ ?_
              · refine bcase ((decide (x32.2.1 < x7))) (fun hb34 => ?_) (fun hb34 => ?_)
                · replace hj36 := cond_t hb34 hj36
                  cases hj36
                  refine TO.skip rfl rfl rfl (skipT hb34) rfl rfl ?_
                  refine TO.skip rfl rfl rfl (skipT hb34) rfl rfl ?_
                  refine TO.skip rfl rfl rfl (skipT hb34) rfl rfl ?_
                  refine TO.skip rfl rfl rfl (skipT hb34) rfl rfl ?_
                  refine TO.skip rfl rfl rfl (skipT hb34) rfl rfl ?_
                  refine TO.skip rfl rfl rfl (skipT hb34) rfl rfl ?_
                  refine TO.skip rfl rfl rfl (skipT hb34) rfl rfl ?_
                  refine TO.skip rfl rfl rfl skipU rfl rfl ?_
                  refine TO.skip rfl rfl rfl skipU rfl rfl ?_
                  refine TO.skip rfl rfl rfl skipU rfl rfl ?_
                  refine TO.skip rfl rfl rfl (skipT hb34) rfl rfl ?_
                  refine TO.sw rfl rfl rfl hb29 rfl rfl (StepS.pickT rfl hb34 rfl) ?_
                  exact TO.up1 12 0 rfl rfl rfl rfl
                · replace hj36 := cond_f hb34 hj36
                  refine TO.sw rfl rfl rfl hb34 rfl rfl (StepS.move rfl) ?_
                  refine TO.sw rfl rfl rfl hb34 rfl rfl (StepS.nilc rfl) ?_
                  refine TO.sw rfl rfl rfl hb34 rfl rfl (StepS.ptrf rfl kfieldB_178_1_1_true) ?_
                  obtain ⟨x37, hx38, hj36⟩ := bind_some hj36
                  refine TO.sw rfl rfl rfl hb34 rfl rfl (StepS.ld1 rfl (OwnS.rd (Ent.at 3 rfl)) kscalB_3_true rfl (idxm hx38) rfl) ?_
                  refine TO.sw rfl rfl rfl hb34 rfl rfl (StepS.move rfl) ?_
                  refine TO.sw rfl rfl rfl hb34 rfl rfl (StepS.cmp rfl rfl rfl) ?_
                  refine TO.sw rfl rfl rfl hb34 rfl rfl (StepS.move rfl) ?_
                  refine TO.mid1 4 98 (.bool ((x37.2.1 == x7) && (decide (a2 < a1)))) ?_ ?_
                  · refine bcase ((x37.2.1 == x7)) (fun hb39 => ?_) (fun hb39 => ?_)
                    · refine TO.sw rfl rfl rfl hb39 rfl rfl (StepS.move rfl) ?_
                      refine TO.sw rfl rfl rfl hb39 rfl rfl (StepS.move rfl) ?_
                      refine TO.sw rfl rfl rfl hb39 rfl rfl (StepS.cmp rfl rfl rfl) ?_
                      refine TO.sw rfl rfl rfl hb34 rfl rfl (StepS.pickT rfl hb39 rfl) ?_
                      exact TO.up1 4 0 rfl rfl (by rw [hb39]; rfl) rfl
                    · refine TO.skip rfl rfl rfl (skipF hb39) rfl rfl ?_
                      refine TO.skip rfl rfl rfl (skipF hb39) rfl rfl ?_
                      refine TO.skip rfl rfl rfl (skipF hb39) rfl rfl ?_
                      refine TO.sw rfl rfl rfl hb34 rfl rfl (StepS.pickF rfl hb39 rfl) ?_
                      exact TO.up1 4 0 rfl rfl (by rw [hb39]; rfl) rfl
                  cases hj36
                  refine TO.sw rfl rfl rfl hb29 rfl rfl (StepS.pickF rfl hb34 rfl) ?_
                  exact TO.up1 9 0 rfl rfl rfl rfl
              cases hj31
              refine TO.sw rfl rfl rfl hb24 rfl rfl (StepS.pickT rfl hb29 rfl) ?_
              exact TO.up1 9 0 rfl rfl rfl rfl
            · replace hj31 := cond_f hb29 hj31
              cases hj31
              refine TO.skip rfl rfl rfl (skipF hb29) rfl rfl ?_
              refine TO.skip rfl rfl rfl (skipF hb29) rfl rfl ?_
              refine TO.skip rfl rfl rfl (skipF hb29) rfl rfl ?_
              refine TO.skip rfl rfl rfl (skipF hb29) rfl rfl ?_
              refine TO.skip rfl rfl rfl (skipF hb29) rfl rfl ?_
              refine TO.skip rfl rfl rfl (skipF hb29) rfl rfl ?_
              refine TO.skip rfl rfl rfl (skipF hb29) rfl rfl ?_
              refine TO.skip rfl rfl rfl skipU rfl rfl ?_
              refine TO.skip rfl rfl rfl skipU rfl rfl ?_
              refine TO.skip rfl rfl rfl skipU rfl rfl ?_
              refine TO.skip rfl rfl rfl skipU rfl rfl ?_
              refine TO.skip rfl rfl rfl skipU rfl rfl ?_
              refine TO.skip rfl rfl rfl skipU rfl rfl ?_
              refine TO.skip rfl rfl rfl skipU rfl rfl ?_
              refine TO.skip rfl rfl rfl skipU rfl rfl ?_
              refine TO.skip rfl rfl rfl skipU rfl rfl ?_
              refine TO.skip rfl rfl rfl skipU rfl rfl ?_
              refine TO.skip rfl rfl rfl skipU rfl rfl ?_
              refine TO.skip rfl rfl rfl (skipF hb29) rfl rfl ?_
              refine TO.sw rfl rfl rfl hb24 rfl rfl (StepS.pickF rfl hb29 rfl) ?_
              exact TO.up1 20 0 rfl rfl rfl rfl
          cases hj26
          refine TO.s rfl rfl rfl (StepS.pickF rfl hb24 rfl) ?_
          exact TO.up1 8 0 rfl rfl rfl rfl
      refine TO.code ?_
      refine TC.cond rfl (fun hc40 => ?_) (fun hc40 => ?_)
      · replace hm := cond_t hc40 hm
        refine TC.k ?_
        refine TC.region_tail 9 kfollows_mixedOrders_true (by kernel_rfl) ?_
        refine TS.s rfl rfl rfl (StepS.move rfl) ?_
        refine TS.s rfl rfl rfl (StepS.nilc rfl) ?_
        refine TS.s rfl rfl rfl (StepS.ptrf rfl kfieldB_178_4_4_true) ?_
        obtain ⟨x41, hx42, hm⟩ := bind_some hm
        refine TS.s rfl rfl rfl (StepS.ld1 rfl (OwnS.rd (Ent.at 3 rfl)) kscalB_36_true rfl (idxm hx42) rfl) ?_
        refine TS.s rfl rfl rfl (StepS.move rfl) ?_
        obtain ⟨k43, hk44, hm⟩ := bind_some hm
        refine TS.s rfl rfl rfl (StepS.shlk (m := 1#32) rfl rfl hk44) ?_
        refine TS.s rfl rfl rfl (StepS.bitU rfl rfl rfl) ?_
        refine TS.s rfl rfl rfl (StepS.nilc rfl) ?_
        refine TS.s rfl rfl rfl (StepS.ptrf rfl kfieldB_178_4_4_true) ?_
        refine TS.nil ?_
        refine TO.at ?_
        obtain ⟨x45, hx46, hm⟩ := bind_some hm
        refine TO.stO (i := a2.toNat) (off := 4) (us := [U (x41.2.2.2.2 ||| ((1#32) <<< k43))]) 3 (x45.1, x45.2.1, x45.2.2.1, x45.2.2.2.1, (x41.2.2.2.2 ||| ((1#32) <<< k43))) rfl rfl rfl ksizeB_36_1_true rfl rfl rfl (idx_spec hx46).2 rfl (by simp [Value.oneCell']) rfl ?_
        refine TO.code ?_
        refine TC.k ?_
        refine TC.region ?_
        refine TO.s rfl rfl rfl (StepS.assign rfl) ?_
        refine TO.code ?_
        cases hm
        refine TC.ret fun a w e s => ?_
        refine FRet.mk1 (P := Try.prog) (fn := Try.f105) (t := 6) e rfl rfl ?_
        refine ⟨_, _, rfl, ⟨h0_2, hs13, rfl, rfl⟩, ?_⟩
        refine s.mono fun _ s => ?_
        replace s := Sat.front 0 rfl s
        replace s := Sat.front 3 rfl s
        replace s := Sat.front 3 rfl s
        replace s := Sat.erase 3 s
        exact s
      · replace hm := cond_f hc40 hm
        refine TC.skipk ?_
        refine TC.k ?_
        refine TC.region ?_
        refine TO.s rfl rfl rfl (StepS.move rfl) ?_
        refine TO.s rfl rfl rfl (StepS.move rfl) ?_
        refine TO.s rfl rfl rfl (StepS.move rfl) ?_
        refine TO.ghost (fun _ s => Sat.front 2 rfl s) ?_
        obtain ⟨r47, hc48, hm⟩ := bind_some hm
        refine TO.callO kcallB_134_true rfl rfl rfl (fun _ st => C134 (a0 := (mupd a0.2 (a1, a2) y9))  hc48 st) ?_
        rintro _ _ ⟨r49, hd50, rfl, rfl⟩
        refine TO.code ?_
        refine TC.k ?_
        refine TC.region ?_
        refine TO.s rfl rfl rfl (StepS.assign rfl) ?_
        refine TO.code ?_
        cases hm
        refine TC.ret fun a w e s => ?_
        refine FRet.mk1 (P := Try.prog) (fn := Try.f105) (t := 6) e rfl rfl ?_
        refine ⟨_, _, rfl, ⟨r49, hd50, rfl, rfl⟩, ?_⟩
        refine s.mono fun _ s => ?_
        replace s := Sat.front 1 rfl s
        replace s := Sat.front 3 rfl s
        replace s := Sat.front 2 rfl s
        replace s := Sat.erase 3 s
        exact s

set_option maxRecDepth 100000 in
theorem C106 {B : World} {L : List HP} {a0 : (List (Int × Int × Bool × (BitVec 32) × BitVec 32)) × ((Int × Int) → Option (List Int))} {a1 : Int} {b0_ : Nat} {h0_1 : Value} {h0_2 : Nat} {h0_3 : (Int × Int) → Value} {r0 : Int} {s0 : (List (Int × Int × Bool × (BitVec 32) × BitVec 32)) × ((Int × Int) → Option (List Int))} (hm : F106 a0 a1 = some (r0, s0)) {w : World} (st : St B (Bx b0_ 176 [h0_1, .map (some h0_2)] :: OwnS 178 5 h0_1 (a0.1.map cTiibiu32iu32) :: MS (fun k : Int × Int => .agg #[I k.1, I k.2]) 3 1 cI h0_2 h0_3 (a0.2) :: L) w) : Calls Try.prog 106 #[.pointer (some ⟨b0_, 0, none⟩), I a1] w (fun e w' => ∃ v M, e = .returned v ∧ (∃ (qr1 : Nat) (qhd2 : (Int × Int) → Value), v = I r0 ∧ M = (Bx b0_ 176 [h0_1, .map (some qr1)] :: OwnS 178 5 h0_1 (s0.1.map cTiibiu32iu32) :: MS (fun k : Int × Int => .agg #[I k.1, I k.2]) 3 1 cI qr1 qhd2 (s0.2) :: L)) ∧ St B M w') := by
  refine calls_of (N := 45) (L := (Bx b0_ 176 [h0_1, .map (some h0_2)] :: OwnS 178 5 h0_1 (a0.1.map cTiibiu32iu32) :: MS (fun k : Int × Int => .agg #[I k.1, I k.2]) 3 1 cI h0_2 h0_3 (a0.2) :: L)) (args := [.pointer (some ⟨b0_, 0, none⟩), I a1]) Try.func106 rfl rfl rfl ?_ st
  dsimp only [F106] at hm
  refine TC.k ?_
  refine TC.region ?_
  refine TO.s rfl rfl rfl (StepS.assign rfl) ?_
  refine TO.code ?_
  refine TC.k ?_
  refine TC.region ?_
  refine TO.s rfl rfl rfl (StepS.move rfl) ?_
  refine TO.s rfl rfl rfl (StepS.nilc rfl) ?_
  refine TO.s rfl rfl rfl (StepS.fld rfl kfieldB_176_0_0_true) ?_
  refine TO.s rfl rfl rfl (StepS.ldB rfl (Ent.at 0 rfl) kscalB_174_true rfl) ?_
  refine TO.s rfl rfl rfl (StepS.move rfl) ?_
  obtain ⟨x5, hx6, hm⟩ := bind_some hm
  refine TO.s rfl rfl rfl (StepS.idx rfl rfl (OwnS.rd (Ent.at 1 rfl)) ksliceB_174_178_5_true (idx_spec hx6).1 (idxm_lt hx6)) ?_
  refine TO.s rfl rfl rfl (StepS.assign rfl) ?_
  refine TO.code ?_
  refine TC.k ?_
  refine TC.k ?_
  refine TC.region ?_
  refine TO.s rfl rfl rfl (StepS.move rfl) ?_
  refine TO.s rfl rfl rfl (StepS.nilc rfl) ?_
  refine TO.s rfl rfl rfl (StepS.ptrf rfl kfieldB_178_2_2_true) ?_
  refine TO.s rfl rfl rfl (StepS.ld1 rfl (OwnS.rd (Ent.at 1 rfl)) kscalB_4_true rfl (idxm hx6) rfl) ?_
  refine TO.s rfl rfl rfl (StepS.not rfl) ?_
  refine TO.code ?_
  refine TC.cond rfl (fun hc7 => ?_) (fun hc7 => ?_)
  · replace hm := cond_t hc7 hm
    refine TC.k ?_
    refine TC.region ?_
    refine TO.s rfl rfl rfl (StepS.assign rfl) ?_
    refine TO.code ?_
    cases hm
    refine TC.ret fun a w e s => ?_
    refine FRet.mk1 (P := Try.prog) (fn := Try.f106) (t := 4) e rfl rfl ?_
    refine ⟨_, _, rfl, ⟨h0_2, h0_3, rfl, rfl⟩, ?_⟩
    refine s.mono fun _ s => ?_
    replace s := Sat.front 2 rfl s
    replace s := Sat.front 2 rfl s
    replace s := Sat.front 2 rfl s
    exact s
  · replace hm := cond_f hc7 hm
    refine TC.skipk ?_
    refine TC.k ?_
    refine TC.region ?_
    refine TO.s rfl rfl rfl (StepS.move rfl) ?_
    refine TO.s rfl rfl rfl (StepS.nilc rfl) ?_
    refine TO.s rfl rfl rfl (StepS.ptrf rfl kfieldB_178_2_2_true) ?_
    refine TO.stO (i := a1.toNat) (off := 2) (us := [.bool false]) 1 (x5.1, x5.2.1, false, x5.2.2.2.1, x5.2.2.2.2) rfl rfl rfl ksizeB_4_1_true rfl rfl rfl (idx_spec hx6).2 rfl (by simp [Value.oneCell']) rfl ?_
    refine TO.code ?_
    refine TC.k ?_
    refine TC.k ?_
    refine TC.region ?_
    refine TO.s rfl rfl rfl (StepS.move rfl) ?_
    refine TO.s rfl rfl rfl (StepS.nilc rfl) ?_
    refine TO.s rfl rfl rfl (StepS.fld rfl kfieldB_176_0_0_true) ?_
    refine TO.s rfl rfl rfl (StepS.ldB rfl (Ent.at 0 rfl) kscalB_174_true rfl) ?_
    refine TO.s rfl rfl rfl (StepS.lenm rfl (OwnS.rd (Ent.at 1 rfl)) ksliceB_174_178_5_true rfl) ?_
    refine TO.s rfl rfl rfl (StepS.move rfl) ?_
    refine TO.code ?_
    obtain ⟨o22, hw23, hm⟩ := bind_some hm
    refine TC.loop hw23 (fun (y10, x12) => fun a w => ∃ r9 : Nat, ∃ hs11 : (Int × Int) → Value, Mid 45 B [(0, .pointer (some ⟨b0_, 0, none⟩)), (1, I a1), (5, ptr h0_1 (a1.toNat * 5)), (25, I ((a0.1.set a1.toNat (x5.1, x5.2.1, false, x5.2.2.2.1, x5.2.2.2.2)).length : Int)), (26, I x12)] (MS (fun k : Int × Int => .agg #[I k.1, I k.2]) 3 1 cI r9 hs11 (y10) :: Bx b0_ 176 [h0_1, .map (some r9)] :: OwnS 178 5 h0_1 ((a0.1.set a1.toNat (x5.1, x5.2.1, false, x5.2.2.2.1, x5.2.2.2.2)).map cTiibiu32iu32) :: L) a w) (fun y20 => fun a w => ∃ r19 : Nat, ∃ hs21 : (Int × Int) → Value, Mid 45 B [(5, ptr h0_1 (a1.toNat * 5))] (MS (fun k : Int × Int => .agg #[I k.1, I k.2]) 3 1 cI r19 hs21 (y20) :: Bx b0_ 176 [h0_1, .map (some r19)] :: OwnS 178 5 h0_1 ((a0.1.set a1.toNat (x5.1, x5.2.1, false, x5.2.2.2.1, x5.2.2.2.2)).map cTiibiu32iu32) :: L) a w) (fun (_ : Unit) _ _ => False) ?_ ?_ ?_ ?_
    · rintro ⟨y10, x12⟩ o22r hb24 a w ⟨r9, hs11, he, hs⟩
      dsimp only [F106_L0] at hb24
      refine TC.use ?_ he hs
      refine TC.k ?_
      refine TC.region ?_
      refine TO.s rfl rfl rfl (StepS.cmp rfl rfl rfl) ?_
      refine TO.code ?_
      refine TC.k ?_
      refine TC.cond rfl (fun hc25 => ?_) (fun hc25 => ?_)
      · replace hb24 := cond_t hc25 hb24
        refine TC.skipk ?_
        refine TC.k ?_
        obtain ⟨y28, hj30, hb24⟩ := bind_some hb24
        first | refine TC.cutM (fun a w => ∃ r27 : Nat, ∃ hs29 : (Int × Int) → Value, Mid 45 B [(0, .pointer (some ⟨b0_, 0, none⟩)), (1, I a1), (5, ptr h0_1 (a1.toNat * 5)), (25, I ((a0.1.set a1.toNat (x5.1, x5.2.1, false, x5.2.2.2.1, x5.2.2.2.2)).length : Int)), (26, I x12)] (MS (fun k : Int × Int => .agg #[I k.1, I k.2]) 3 1 cI r27 hs29 (y28) :: Bx b0_ 176 [h0_1, .map (some r27)] :: OwnS 178 5 h0_1 ((a0.1.set a1.toNat (x5.1, x5.2.1, false, x5.2.2.2.1, x5.2.2.2.2)).map cTiibiu32iu32) :: L) a w) ?_ ?_ | refine TC.cutX (fun a w => ∃ r27 : Nat, ∃ hs29 : (Int × Int) → Value, Mid 45 B [(0, .pointer (some ⟨b0_, 0, none⟩)), (1, I a1), (5, ptr h0_1 (a1.toNat * 5)), (25, I ((a0.1.set a1.toNat (x5.1, x5.2.1, false, x5.2.2.2.1, x5.2.2.2.2)).length : Int)), (26, I x12)] (MS (fun k : Int × Int => .agg #[I k.1, I k.2]) 3 1 cI r27 hs29 (y28) :: Bx b0_ 176 [h0_1, .map (some r27)] :: OwnS 178 5 h0_1 ((a0.1.set a1.toNat (x5.1, x5.2.1, false, x5.2.2.2.1, x5.2.2.2.2)).map cTiibiu32iu32) :: L) a w) ?_ ?_
        · refine TC.block ?_
          refine TC.k ?_
          refine TC.region ?_
          refine TO.s rfl rfl rfl (StepS.move rfl) ?_
          refine TO.s rfl rfl rfl (StepS.assign rfl) ?_
          refine TO.code ?_
          refine TC.k ?_
          refine TC.region ?_
          refine TO.s rfl rfl rfl (StepS.move rfl) ?_
          refine TO.s rfl rfl rfl (StepS.nilc rfl) ?_
          refine TO.s rfl rfl rfl (StepS.ptrf rfl kfieldB_178_4_4_true) ?_
          obtain ⟨x31, hx32, hj30⟩ := bind_some hj30
          refine TO.s rfl rfl rfl (StepS.ld1 rfl (OwnS.rd (Ent.at 2 rfl)) kscalB_36_true rfl (idxm hx32) rfl) ?_
          refine TO.s rfl rfl rfl (StepS.move rfl) ?_
          obtain ⟨k33, hk34, hj30⟩ := bind_some hj30
          refine TO.s rfl rfl rfl (StepS.shrk rfl rfl hk34) ?_
          refine TO.s rfl rfl rfl (StepS.bitU (n := 1#32) rfl rfl rfl) ?_
          refine TO.s rfl rfl rfl (StepS.cmpU (n := 1#32) rfl rfl rfl) ?_
          refine TO.code ?_
          refine TC.cond rfl (fun hc35 => ?_) (fun hc35 => ?_)
          · replace hj30 := cond_t hc35 hj30
            refine TC.region ?_
            refine TO.s rfl rfl rfl (StepS.move rfl) ?_
            refine TO.s rfl rfl rfl (StepS.move rfl) ?_
            refine TO.s rfl rfl rfl (StepS.move rfl) ?_
            refine TO.ghost (fun _ s => Sat.front 1 rfl s) ?_
            obtain ⟨r36, hc37, hj30⟩ := bind_some hj30
            refine TO.callO kcallB_134_true rfl rfl rfl (fun _ st => C134 (a0 := y10)  hc37 st) ?_
            rintro _ _ ⟨r38, hd39, rfl, rfl⟩
            cases hj30
            refine TO.nil fun a w e s => ?_
            exact ⟨r38, hd39, e.sub (lk_of_allIn ⟨rfl, rfl, rfl, rfl, rfl, trivial⟩), s.mono fun _ s => (by exact Sat.by [2, 1, 2] 3 0 (by kernel_rfl) s)⟩
          · replace hj30 := cond_f hc35 hj30
            cases hj30
            refine TC.skip fun a w e s => ?_
            exact ⟨r9, hs11, e.sub (lk_of_allIn ⟨rfl, rfl, rfl, rfl, rfl, trivial⟩), s⟩
        · intro a w ⟨r27, hs29, he, hs⟩
          refine TC.use ?_ he hs
          refine TC.region ?_
          refine TO.s rfl rfl rfl (StepS.ari rfl rfl rfl) ?_
          refine TO.s rfl rfl rfl (StepS.move rfl) ?_
          cases hb24
          refine TO.nil fun a w e s => ?_
          exact ⟨r27, hs29, e.sub (lk_of_allIn ⟨rfl, rfl, rfl, rfl, rfl, trivial⟩), s⟩
      · replace hb24 := cond_f hc25 hb24
        cases hb24
        refine TC.exit rfl fun a w e s => ?_
        exact ⟨r9, hs11, e.sub (lk_of_allIn ⟨rfl, trivial⟩), s⟩
    · exact fun a w e s => ⟨h0_2, h0_3, e.sub (lk_of_allIn ⟨rfl, rfl, rfl, rfl, rfl, trivial⟩), s.mono fun _ s => (by exact Sat.by [1, 1, 2] 3 0 (by kernel_rfl) s)⟩
    · rintro y20 rfl a w ⟨r19, hs21, he, hs⟩
      dsimp only [Ctl.on] at hm
      refine TC.use ?_ he hs
      refine TC.k ?_
      refine TC.region ?_
      refine TO.s rfl rfl rfl (StepS.move rfl) ?_
      refine TO.s rfl rfl rfl (StepS.nilc rfl) ?_
      refine TO.s rfl rfl rfl (StepS.ptrf rfl kfieldB_178_4_4_true) ?_
      obtain ⟨x41, hx42, hm⟩ := bind_some hm
      refine TO.stO (i := a1.toNat) (off := 4) (us := [U (0#32)]) 2 (x41.1, x41.2.1, x41.2.2.1, x41.2.2.2.1, 0#32) rfl rfl rfl ksizeB_36_1_true rfl rfl rfl (idx_spec hx42).2 rfl (by simp [Value.oneCell']) rfl ?_
      refine TO.code ?_
      refine TC.k ?_
      refine TC.region ?_
      refine TO.s rfl rfl rfl (StepS.assign rfl) ?_
      refine TO.code ?_
      cases hm
      refine TC.ret fun a w e s => ?_
      refine FRet.mk1 (P := Try.prog) (fn := Try.f106) (t := 4) e rfl rfl ?_
      refine ⟨_, _, rfl, ⟨r19, hs21, rfl, rfl⟩, ?_⟩
      refine s.mono fun _ s => ?_
      replace s := Sat.front 0 rfl s
      replace s := Sat.front 2 rfl s
      replace s := Sat.front 2 rfl s
      exact s
    · rintro r rfl
      exact fun a w h => h.elim

set_option maxRecDepth 100000 in
theorem C72 {B : World} {L : List HP} {a0 : (List (Int × Int × Bool × (BitVec 32) × BitVec 32)) × ((Int × Int) → Option (List Int))} {a1 : Int × Int × Int × Int} {b0_ : Nat} {h0_1 : Value} {h0_2 : Nat} {h0_3 : (Int × Int) → Value} {r0 : Int} {s0 : (List (Int × Int × Bool × (BitVec 32) × BitVec 32)) × ((Int × Int) → Option (List Int))} (hm : F72 a0 a1 = some (r0, s0)) {w : World} (st : St B (Bx b0_ 176 [h0_1, .map (some h0_2)] :: OwnS 178 5 h0_1 (a0.1.map cTiibiu32iu32) :: MS (fun k : Int × Int => .agg #[I k.1, I k.2]) 3 1 cI h0_2 h0_3 (a0.2) :: L) w) : Calls Try.prog 72 #[.pointer (some ⟨b0_, 0, none⟩), .agg (cTiiii a1).toArray] w (fun e w' => ∃ v M, e = .returned v ∧ (∃ (qr1 : Nat) (qhd2 : (Int × Int) → Value), v = I r0 ∧ M = (Bx b0_ 176 [h0_1, .map (some qr1)] :: OwnS 178 5 h0_1 (s0.1.map cTiibiu32iu32) :: MS (fun k : Int × Int => .agg #[I k.1, I k.2]) 3 1 cI qr1 qhd2 (s0.2) :: L)) ∧ St B M w') := by
  refine calls_of (N := 61) (L := (Bx b0_ 176 [h0_1, .map (some h0_2)] :: OwnS 178 5 h0_1 (a0.1.map cTiibiu32iu32) :: MS (fun k : Int × Int => .agg #[I k.1, I k.2]) 3 1 cI h0_2 h0_3 (a0.2) :: L)) (args := [.pointer (some ⟨b0_, 0, none⟩), .agg (cTiiii a1).toArray]) Try.func72 rfl rfl rfl ?_ st
  dsimp only [F72] at hm
  refine TC.k ?_
  refine TC.region ?_
  refine TO.box (cs := [.pointer (some ⟨b0_, 0, none⟩)]) rfl rfl rfl fun b5 => ?_
  refine TO.box (cs := [I a1.1, I a1.2.1, I a1.2.2.1, I a1.2.2.2]) rfl rfl rfl fun b6 => ?_
  refine TO.s rfl rfl rfl (StepS.assign rfl) ?_
  refine TO.code ?_
  refine TC.k ?_
  refine TC.region ?_
  refine TO.s rfl rfl rfl (StepS.mkfn rfl) ?_
  refine TO.s rfl rfl rfl (StepS.assign rfl) ?_
  refine TO.code ?_
  refine TC.k ?_
  refine TC.block ?_
  refine TC.k ?_
  refine TC.region ?_
  refine TO.s rfl rfl rfl (StepS.fld rfl kfieldB_106_0_0_true) ?_
  refine TO.s rfl rfl rfl (StepS.ldB rfl (Ent.at 0 rfl) kscalB_3_true rfl) ?_
  refine TO.s rfl rfl rfl (StepS.cmp rfl rfl rfl) ?_
  refine TO.s rfl rfl rfl (StepS.move rfl) ?_
  refine TO.mid1 4 15 (.bool ((decide (a1.1 < 1)) || (decide (a1.1 > 3)))) ?_ ?_
  · refine bcase ((decide (a1.1 < 1))) (fun hb7 => ?_) (fun hb7 => ?_)
    · refine TO.skip rfl rfl rfl (skipT hb7) rfl rfl ?_
      refine TO.skip rfl rfl rfl (skipT hb7) rfl rfl ?_
      refine TO.skip rfl rfl rfl (skipT hb7) rfl rfl ?_
      refine TO.s rfl rfl rfl (StepS.pickT rfl hb7 rfl) ?_
      exact TO.up1 4 0 rfl rfl (by rw [hb7]; rfl) rfl
    · refine TO.sw rfl rfl rfl hb7 rfl rfl (StepS.fld rfl kfieldB_106_0_0_true) ?_
      refine TO.sw rfl rfl rfl hb7 rfl rfl (StepS.ldB rfl (Ent.at 0 rfl) kscalB_3_true rfl) ?_
      refine TO.sw rfl rfl rfl hb7 rfl rfl (StepS.cmp rfl rfl rfl) ?_
      refine TO.s rfl rfl rfl (StepS.pickF rfl hb7 rfl) ?_
      exact TO.up1 4 0 rfl rfl (by rw [hb7]; rfl) rfl
  refine TO.s rfl rfl rfl (StepS.assign rfl) ?_
  refine TO.code ?_
  refine TC.cond rfl (fun hc8 => ?_) (fun hc8 => ?_)
  · replace hm := cond_t hc8 hm
    refine TC.k ?_
    refine TC.region ?_
    refine TO.s rfl rfl rfl (StepS.assign rfl) ?_
    refine TO.code ?_
    cases hm
    refine TC.ret fun a w e s => ?_
    refine FRet.mk1 (P := Try.prog) (fn := Try.f72) (t := 4) e rfl rfl ?_
    refine ⟨_, _, rfl, ⟨h0_2, h0_3, rfl, rfl⟩, ?_⟩
    refine s.mono fun _ s => ?_
    replace s := Sat.front 4 rfl s
    replace s := Sat.front 4 rfl s
    replace s := Sat.front 4 rfl s
    replace s := Sat.erase 3 s
    replace s := Sat.erase 3 s
    exact s
  · replace hm := cond_f hc8 hm
    refine TC.k ?_
    refine TC.region ?_
    refine TO.s rfl rfl rfl (StepS.move rfl) ?_
    refine TO.s rfl rfl rfl (StepS.fld rfl kfieldB_106_1_1_true) ?_
    refine TO.s rfl rfl rfl (StepS.ldB rfl (Ent.at 0 rfl) kscalB_3_true rfl) ?_
    obtain ⟨r9, hc10, hm⟩ := bind_some hm
    refine TO.q rfl rfl rfl (StepQ.callC kcallB_103_true rfl rfl rfl (fun _ st => C103 (Ent.at 1 rfl) (Ent.at 2 rfl) (Rd.hdm (OwnS.rd (Ent.at 3 rfl))) hc10 st)) ?_
    refine TO.s rfl rfl rfl (StepS.move rfl) ?_
    obtain ⟨b12, hj13, hm⟩ := bind_some hm
    refine TO.mid1 17 38 (.bool b12) ?_ ?_
    · refine bcase (r9) (fun hb11 => ?_) (fun hb11 => ?_)
      · replace hj13 := cond_t hb11 hj13
        cases hj13
        refine TO.skip rfl rfl rfl (skipT hb11) rfl rfl ?_
        refine TO.skip rfl rfl rfl (skipT hb11) rfl rfl ?_
        refine TO.skip rfl rfl rfl (skipT hb11) rfl rfl ?_
        refine TO.skip rfl rfl rfl (skipT hb11) rfl rfl ?_
        refine TO.skip rfl rfl rfl skipU rfl rfl ?_
        refine TO.skip rfl rfl rfl skipU rfl rfl ?_
        refine TO.skip rfl rfl rfl skipU rfl rfl ?_
        refine TO.skip rfl rfl rfl skipU rfl rfl ?_
        refine TO.skip rfl rfl rfl skipU rfl rfl ?_
        refine TO.skip rfl rfl rfl skipU rfl rfl ?_
        refine TO.skip rfl rfl rfl skipU rfl rfl ?_
        refine TO.skip rfl rfl rfl skipU rfl rfl ?_
        refine TO.skip rfl rfl rfl skipU rfl rfl ?_
        refine TO.skip rfl rfl rfl skipU rfl rfl ?_
        refine TO.skip rfl rfl rfl skipU rfl rfl ?_
        refine TO.skip rfl rfl rfl (skipT hb11) rfl rfl ?_
        refine TO.s rfl rfl rfl (StepS.pickT rfl hb11 rfl) ?_
        exact TO.up1 17 0 rfl rfl rfl rfl
      · replace hj13 := cond_f hb11 hj13
        refine TO.sw rfl rfl rfl hb11 rfl rfl (StepS.fld rfl kfieldB_106_0_0_true) ?_
        refine TO.sw rfl rfl rfl hb11 rfl rfl (StepS.ldB rfl (Ent.at 0 rfl) kscalB_3_true rfl) ?_
        refine TO.sw rfl rfl rfl hb11 rfl rfl (StepS.cmp rfl rfl rfl) ?_
        refine TO.sw rfl rfl rfl hb11 rfl rfl (StepS.move rfl) ?_
        obtain ⟨b15, hj16, hj13⟩ := bind_some hj13
        refine TO.mid1 12 37 (.bool b15) ?_ ?_
        · refine bcase ((a1.1 == 2)) (fun hb14 => ?_) (fun hb14 => ?_)
          · replace hj16 := cond_t hb14 hj16
            refine TO.sw rfl rfl rfl hb14 rfl rfl (StepS.move rfl) ?_
            refine TO.sw rfl rfl rfl hb14 rfl rfl (StepS.fld rfl kfieldB_106_2_2_true) ?_
            refine TO.sw rfl rfl rfl hb14 rfl rfl (StepS.ldB rfl (Ent.at 0 rfl) kscalB_3_true rfl) ?_
            obtain ⟨r17, hc18, hj16⟩ := bind_some hj16
            refine TO.qw rfl rfl rfl hb14 rfl rfl (StepQ.callC kcallB_103_true rfl rfl rfl (fun _ st => C103 (Ent.at 1 rfl) (Ent.at 2 rfl) (Rd.hdm (OwnS.rd (Ent.at 3 rfl))) hc18 st)) ?_
            refine TO.sw rfl rfl rfl hb14 rfl rfl (StepS.move rfl) ?_
            refine TO.mid1 6 36 (.bool (r17 || (a1.2.1 == a1.2.2.1))) ?_ ?_
            · refine bcase (r17) (fun hb19 => ?_) (fun hb19 => ?_)
              · refine TO.skip rfl rfl rfl (skipT hb19) rfl rfl ?_
                refine TO.skip rfl rfl rfl (skipT hb19) rfl rfl ?_
                refine TO.skip rfl rfl rfl (skipT hb19) rfl rfl ?_
                refine TO.skip rfl rfl rfl (skipT hb19) rfl rfl ?_
                refine TO.skip rfl rfl rfl (skipT hb19) rfl rfl ?_
                refine TO.sw rfl rfl rfl hb14 rfl rfl (StepS.pickT rfl hb19 rfl) ?_
                exact TO.up1 6 0 rfl rfl (by rw [hb19]; rfl) rfl
              · refine TO.sw rfl rfl rfl hb19 rfl rfl (StepS.fld rfl kfieldB_106_1_1_true) ?_
                refine TO.sw rfl rfl rfl hb19 rfl rfl (StepS.ldB rfl (Ent.at 0 rfl) kscalB_3_true rfl) ?_
                refine TO.sw rfl rfl rfl hb19 rfl rfl (StepS.fld rfl kfieldB_106_2_2_true) ?_
                refine TO.sw rfl rfl rfl hb19 rfl rfl (StepS.ldB rfl (Ent.at 0 rfl) kscalB_3_true rfl) ?_
                refine TO.sw rfl rfl rfl hb19 rfl rfl (StepS.cmp rfl rfl rfl) ?_
                refine TO.sw rfl rfl rfl hb14 rfl rfl (StepS.pickF rfl hb19 rfl) ?_
                exact TO.up1 6 0 rfl rfl (by rw [hb19]; rfl) rfl
            cases hj16
            refine TO.sw rfl rfl rfl hb11 rfl rfl (StepS.pickT rfl hb14 rfl) ?_
            exact TO.up1 7 0 rfl rfl rfl rfl
          · replace hj16 := cond_f hb14 hj16
            cases hj16
            refine TO.skip rfl rfl rfl (skipF hb14) rfl rfl ?_
            refine TO.skip rfl rfl rfl (skipF hb14) rfl rfl ?_
            refine TO.skip rfl rfl rfl (skipF hb14) rfl rfl ?_
            refine TO.skip rfl rfl rfl (skipF hb14) rfl rfl ?_
            refine TO.skip rfl rfl rfl (skipF hb14) rfl rfl ?_
            refine TO.skip rfl rfl rfl skipU rfl rfl ?_
            refine TO.skip rfl rfl rfl skipU rfl rfl ?_
            refine TO.skip rfl rfl rfl skipU rfl rfl ?_
            refine TO.skip rfl rfl rfl skipU rfl rfl ?_
            refine TO.skip rfl rfl rfl skipU rfl rfl ?_
            refine TO.skip rfl rfl rfl (skipF hb14) rfl rfl ?_
            refine TO.sw rfl rfl rfl hb11 rfl rfl (StepS.pickF rfl hb14 rfl) ?_
            exact TO.up1 12 0 rfl rfl rfl rfl
        cases hj13
        refine TO.s rfl rfl rfl (StepS.pickF rfl hb11 rfl) ?_
        exact TO.up1 6 0 rfl rfl rfl rfl
    refine TO.s rfl rfl rfl (StepS.assign rfl) ?_
    refine TO.code ?_
    refine TC.cond rfl (fun hc20 => ?_) (fun hc20 => ?_)
    · replace hm := cond_t hc20 hm
      refine TC.k ?_
      refine TC.region ?_
      refine TO.s rfl rfl rfl (StepS.assign rfl) ?_
      refine TO.code ?_
      cases hm
      refine TC.ret fun a w e s => ?_
      refine FRet.mk1 (P := Try.prog) (fn := Try.f72) (t := 4) e rfl rfl ?_
      refine ⟨_, _, rfl, ⟨h0_2, h0_3, rfl, rfl⟩, ?_⟩
      refine s.mono fun _ s => ?_
      replace s := Sat.front 4 rfl s
      replace s := Sat.front 4 rfl s
      replace s := Sat.front 4 rfl s
      replace s := Sat.erase 3 s
      replace s := Sat.erase 3 s
      exact s
    · replace hm := cond_f hc20 hm
      refine TC.k ?_
      refine TC.region ?_
      refine TO.s rfl rfl rfl (StepS.fld rfl kfieldB_106_0_0_true) ?_
      refine TO.s rfl rfl rfl (StepS.ldB rfl (Ent.at 0 rfl) kscalB_3_true rfl) ?_
      refine TO.s rfl rfl rfl (StepS.cmp rfl rfl rfl) ?_
      refine TO.s rfl rfl rfl (StepS.assign rfl) ?_
      refine TO.code ?_
      refine TC.cond rfl (fun hc21 => ?_) (fun hc21 => ?_)
      · replace hm := cond_t hc21 hm
        refine TC.k ?_
        refine TC.region ?_
        refine TO.s rfl rfl rfl (StepS.ldB rfl (Ent.at 1 rfl) kscalB_173_true rfl) ?_
        refine TO.s rfl rfl rfl (StepS.fld rfl kfieldB_106_1_1_true) ?_
        refine TO.s rfl rfl rfl (StepS.ldB rfl (Ent.at 0 rfl) kscalB_3_true rfl) ?_
        refine TO.ghost (fun _ s => Sat.front 4 rfl s) ?_
        refine TO.ghost (fun _ s => Sat.front 4 rfl s) ?_
        refine TO.ghost (fun _ s => Sat.front 4 rfl s) ?_
        obtain ⟨⟨r22, r23⟩, hc24, hm⟩ := bind_some hm
        refine TO.callO kcallB_104_true rfl rfl rfl (fun _ st => C104 (a0 := (a0.1, a0.2))  hc24 st) ?_
        rintro _ _ ⟨r26, hd27, rfl, rfl⟩
        refine TO.s rfl rfl rfl (StepS.assign rfl) ?_
        refine TO.code ?_
        cases hm
        refine TC.ret fun a w e s => ?_
        refine FRet.mk1 (P := Try.prog) (fn := Try.f72) (t := 4) e rfl rfl ?_
        refine ⟨_, _, rfl, ⟨r26, hd27, rfl, rfl⟩, ?_⟩
        refine s.mono fun _ s => ?_
        replace s := Sat.front 2 rfl s
        replace s := Sat.front 2 rfl s
        replace s := Sat.front 2 rfl s
        replace s := Sat.erase 3 s
        replace s := Sat.erase 3 s
        exact s
      · replace hm := cond_f hc21 hm
        refine TC.k ?_
        refine TC.region ?_
        refine TO.s rfl rfl rfl (StepS.fld rfl kfieldB_106_0_0_true) ?_
        refine TO.s rfl rfl rfl (StepS.ldB rfl (Ent.at 0 rfl) kscalB_3_true rfl) ?_
        refine TO.s rfl rfl rfl (StepS.cmp rfl rfl rfl) ?_
        refine TO.s rfl rfl rfl (StepS.assign rfl) ?_
        refine TO.code ?_
        refine TC.cond rfl (fun hc29 => ?_) (fun hc29 => ?_)
        · replace hm := cond_t hc29 hm
          refine TC.k ?_
          refine TC.region ?_
          refine TO.s rfl rfl rfl (StepS.ldB rfl (Ent.at 1 rfl) kscalB_173_true rfl) ?_
          refine TO.s rfl rfl rfl (StepS.fld rfl kfieldB_106_1_1_true) ?_
          refine TO.s rfl rfl rfl (StepS.ldB rfl (Ent.at 0 rfl) kscalB_3_true rfl) ?_
          refine TO.s rfl rfl rfl (StepS.fld rfl kfieldB_106_2_2_true) ?_
          refine TO.s rfl rfl rfl (StepS.ldB rfl (Ent.at 0 rfl) kscalB_3_true rfl) ?_
          refine TO.ghost (fun _ s => Sat.front 4 rfl s) ?_
          refine TO.ghost (fun _ s => Sat.front 4 rfl s) ?_
          refine TO.ghost (fun _ s => Sat.front 4 rfl s) ?_
          obtain ⟨⟨r30, r31⟩, hc32, hm⟩ := bind_some hm
          refine TO.callO kcallB_105_true rfl rfl rfl (fun _ st => C105 (a0 := (a0.1, a0.2))  hc32 st) ?_
          rintro _ _ ⟨r34, hd35, rfl, rfl⟩
          refine TO.s rfl rfl rfl (StepS.assign rfl) ?_
          refine TO.code ?_
          cases hm
          refine TC.ret fun a w e s => ?_
          refine FRet.mk1 (P := Try.prog) (fn := Try.f72) (t := 4) e rfl rfl ?_
          refine ⟨_, _, rfl, ⟨r34, hd35, rfl, rfl⟩, ?_⟩
          refine s.mono fun _ s => ?_
          replace s := Sat.front 2 rfl s
          replace s := Sat.front 2 rfl s
          replace s := Sat.front 2 rfl s
          replace s := Sat.erase 3 s
          replace s := Sat.erase 3 s
          exact s
        · replace hm := cond_f hc29 hm
          refine TC.skipk ?_
          refine TC.k ?_
          refine TC.region ?_
          refine TO.s rfl rfl rfl (StepS.ldB rfl (Ent.at 1 rfl) kscalB_173_true rfl) ?_
          refine TO.s rfl rfl rfl (StepS.fld rfl kfieldB_106_1_1_true) ?_
          refine TO.s rfl rfl rfl (StepS.ldB rfl (Ent.at 0 rfl) kscalB_3_true rfl) ?_
          refine TO.ghost (fun _ s => Sat.front 4 rfl s) ?_
          refine TO.ghost (fun _ s => Sat.front 4 rfl s) ?_
          refine TO.ghost (fun _ s => Sat.front 4 rfl s) ?_
          obtain ⟨⟨r37, r38⟩, hc39, hm⟩ := bind_some hm
          refine TO.callO kcallB_106_true rfl rfl rfl (fun _ st => C106 (a0 := (a0.1, a0.2))  hc39 st) ?_
          rintro _ _ ⟨r41, hd42, rfl, rfl⟩
          refine TO.s rfl rfl rfl (StepS.assign rfl) ?_
          refine TO.code ?_
          cases hm
          refine TC.ret fun a w e s => ?_
          refine FRet.mk1 (P := Try.prog) (fn := Try.f72) (t := 4) e rfl rfl ?_
          refine ⟨_, _, rfl, ⟨r41, hd42, rfl, rfl⟩, ?_⟩
          refine s.mono fun _ s => ?_
          replace s := Sat.front 2 rfl s
          replace s := Sat.front 2 rfl s
          replace s := Sat.front 2 rfl s
          replace s := Sat.erase 3 s
          replace s := Sat.erase 3 s
          exact s

set_option maxRecDepth 100000 in
theorem C38 {B : World} {L : List HP} {a0 : Int} {a1 : List (Int × Int × Int × Int)} {h1 : Value} {r0 : (List Int) × (BitVec 32) × (BitVec 32) × Int} {r1 : Int} (e1 : Ent L (Rd 4 h1 (a1.map cTiiii))) (hm : F38 a0 a1 = some (r0, r1)) {w : World} (st : St B L w) : Calls Try.prog 38 #[I a0, h1] w (fun e w' => ∃ v M, e = .returned v ∧ (∃ (qv1 : Value), v = .tuple #[.agg #[qv1, U r0.2.1, U r0.2.2.1, I r0.2.2.2], I r1] ∧ M = (OwnS 28 1 qv1 (r0.1.map cI) :: L)) ∧ St B M w') := by
  refine calls_of (N := 90) (L := L) (args := [I a0, h1]) Try.func38 rfl rfl rfl ?_ st
  dsimp only [F38] at hm
  refine TC.k ?_
  refine TC.region ?_
  refine TO.alloc kinfo_80_bind_zero_some_agg_slice_none_0_0_U_0_U_0_I_0 rfl rfl fun b2 => ?_
  refine TO.s rfl rfl rfl (StepS.assign rfl) ?_
  refine TO.code ?_
  refine TC.k ?_
  refine TC.k ?_
  refine TC.region ?_
  refine TO.s rfl rfl rfl (StepS.move rfl) ?_
  refine TO.s rfl rfl rfl (StepS.cmp rfl rfl rfl) ?_
  refine TO.s rfl rfl rfl (StepS.move rfl) ?_
  refine TO.mid1 3 19 (.bool ((decide (a0 < 1)) || (decide (a0 > 6)))) ?_ ?_
  · refine bcase ((decide (a0 < 1))) (fun hb3 => ?_) (fun hb3 => ?_)
    · refine TO.skip rfl rfl rfl (skipT hb3) rfl rfl ?_
      refine TO.skip rfl rfl rfl (skipT hb3) rfl rfl ?_
      refine TO.s rfl rfl rfl (StepS.pickT rfl hb3 rfl) ?_
      exact TO.up1 3 0 rfl rfl (by rw [hb3]; rfl) rfl
    · refine TO.sw rfl rfl rfl hb3 rfl rfl (StepS.move rfl) ?_
      refine TO.sw rfl rfl rfl hb3 rfl rfl (StepS.cmp rfl rfl rfl) ?_
      refine TO.s rfl rfl rfl (StepS.pickF rfl hb3 rfl) ?_
      exact TO.up1 3 0 rfl rfl (by rw [hb3]; rfl) rfl
  refine TO.s rfl rfl rfl (StepS.move rfl) ?_
  refine TO.mid1 4 24 (.bool (((decide (a0 < 1)) || (decide (a0 > 6))) || (decide ((a1.length : Int) > 60)))) ?_ ?_
  · refine bcase (((decide (a0 < 1)) || (decide (a0 > 6)))) (fun hb4 => ?_) (fun hb4 => ?_)
    · refine TO.skip rfl rfl rfl (skipT hb4) rfl rfl ?_
      refine TO.skip rfl rfl rfl (skipT hb4) rfl rfl ?_
      refine TO.skip rfl rfl rfl (skipT hb4) rfl rfl ?_
      refine TO.s rfl rfl rfl (StepS.pickT rfl hb4 rfl) ?_
      exact TO.up1 4 0 rfl rfl (by rw [hb4]; rfl) rfl
    · refine TO.sw rfl rfl rfl hb4 rfl rfl (StepS.move rfl) ?_
      refine TO.sw rfl rfl rfl hb4 rfl rfl (StepS.lenm rfl e1.tl ksliceB_23_106_4_true rfl) ?_
      refine TO.sw rfl rfl rfl hb4 rfl rfl (StepS.cmp rfl rfl rfl) ?_
      refine TO.s rfl rfl rfl (StepS.pickF rfl hb4 rfl) ?_
      exact TO.up1 4 0 rfl rfl (by rw [hb4]; rfl) rfl
  refine TO.code ?_
  refine TC.cond rfl (fun hc5 => ?_) (fun hc5 => ?_)
  · replace hm := cond_t hc5 hm
    refine TC.k ?_
    refine TC.region ?_
    refine TO.s rfl rfl rfl (StepS.build (cs := [.slice none 0 0, U 0, U 0, I 0]) rfl (by kernel_rfl)) ?_
    refine TO.stB (us := [.slice none 0 0, U 0, U 0, I 0]) 0 [.slice none 0 0, U 0, U 0, I 0] rfl rfl rfl ksizeB_80_4_true rfl rfl rfl (by simp [Value.oneCell']) rfl ?_
    refine TO.s rfl rfl rfl (StepS.assign rfl) ?_
    refine TO.code ?_
    cases hm
    refine TC.ret fun a w e s => ?_
    refine FRet.cell2 (P := Try.prog) (fn := Try.f38) e s rfl rfl rfl (Ent.at 0 rfl) kaggB_80_4_true rfl ?_
    refine ⟨_, _, rfl, ⟨(.slice none 0 0), rfl, rfl⟩, ?_⟩
    refine s.mono fun _ s => ?_
    replace s := Sat.nilS (e := 28) (sz := 1) (f := cI) s
    replace s := Sat.erase 1 s
    exact s
  · replace hm := cond_f hc5 hm
    refine TC.skipk ?_
    refine TC.k ?_
    refine TC.region ?_
    refine TO.s rfl rfl rfl (StepS.move rfl) ?_
    obtain ⟨y6, hk7, hm⟩ := bind_some hm
    refine TO.mkS (f := cTiibiu32iu32) (za := (0, 0, false, 0, 0)) kelemB_174_178_5_32_true kinfo_178_bind_zero_some_agg_I_0_I_0_bool_false_U_0_U_0 rfl (by decide) rfl rfl hk7 rfl fun v8 => ?_
    refine TO.mkMS (kf := (fun k : Int × Int => .agg #[I k.1, I k.2])) (e := 3) (sz := 1) (f := cI) rfl fun r10 hs11 => ?_
    refine TO.pure (fun _ s => Rd.one (OwnS.rd (Ent.at 1 rfl)) s) fun oc13 => ?_
    refine TO.s rfl rfl rfl (StepS.buildS (us := [(0, .agg #[v8]), (1, .map (some r10))]) (cs := [v8, .map (some r10)]) rfl (by simp only [List.map_cons, List.map_nil, oc13.2] <;> rfl) (by kernel_rfl)) ?_
    refine TO.box (cs := [v8, .map (some r10)]) rfl rfl rfl fun b14 => ?_
    refine TO.s rfl rfl rfl (StepS.assign rfl) ?_
    refine TO.code ?_
    refine TC.k ?_
    refine TC.region ?_
    refine TO.alloc kinfo_80_bind_zero_some_agg_slice_none_0_0_U_0_U_0_I_0 rfl rfl fun b15 => ?_
    refine TO.code ?_
    refine TC.k ?_
    refine TC.k ?_
    refine TC.region ?_
    refine TO.s rfl rfl rfl (StepS.move rfl) ?_
    refine TO.s rfl rfl rfl (StepS.lenm rfl e1.tl.tl.tl.tl.tl ksliceB_23_106_4_true rfl) ?_
    refine TO.s rfl rfl rfl (StepS.move rfl) ?_
    refine TO.code ?_
    obtain ⟨o42, hw43, hm⟩ := bind_some hm
    refine TC.loop hw43 (fun (y18, y21, y23, x24) => fun a w => ∃ v16 : Value, ∃ r20 : Nat, ∃ hs22 : (Int × Int) → Value, Mid 90 B [(4, .pointer (some ⟨b2, 0, none⟩)), (6, .pointer (some ⟨b14, 0, none⟩)), (7, .pointer (some ⟨b15, 0, none⟩)), (31, h1), (32, I (a1.length : Int)), (33, I x24)] (OwnS 28 1 v16 (y18.map cI) :: MS (fun k : Int × Int => .agg #[I k.1, I k.2]) 3 1 cI r20 hs22 (y21) :: Bx b15 80 [v16, U 0, U 0, I 0] :: Bx b14 176 [v8, .map (some r20)] :: OwnS 178 5 v8 (y23.map cTiibiu32iu32) :: Bx b2 80 [.slice none 0 0, U 0, U 0, I 0] :: L) a w) (fun (y36, y39, y41) => fun a w => ∃ v34 : Value, ∃ r38 : Nat, ∃ hs40 : (Int × Int) → Value, Mid 90 B [(4, .pointer (some ⟨b2, 0, none⟩)), (6, .pointer (some ⟨b14, 0, none⟩)), (7, .pointer (some ⟨b15, 0, none⟩))] (OwnS 28 1 v34 (y36.map cI) :: MS (fun k : Int × Int => .agg #[I k.1, I k.2]) 3 1 cI r38 hs40 (y39) :: Bx b15 80 [v34, U 0, U 0, I 0] :: Bx b14 176 [v8, .map (some r38)] :: OwnS 178 5 v8 (y41.map cTiibiu32iu32) :: Bx b2 80 [.slice none 0 0, U 0, U 0, I 0] :: L) a w) (fun (_ : Unit) _ _ => False) ?_ ?_ ?_ ?_
    · rintro ⟨y18, y21, y23, x24⟩ o42r hb44 a w ⟨v16, r20, hs22, he, hs⟩
      dsimp only [F38_L0] at hb44
      refine TC.use ?_ he hs
      refine TC.k ?_
      refine TC.region ?_
      refine TO.s rfl rfl rfl (StepS.cmp rfl rfl rfl) ?_
      refine TO.code ?_
      refine TC.k ?_
      refine TC.cond rfl (fun hc45 => ?_) (fun hc45 => ?_)
      · replace hb44 := cond_t hc45 hb44
        refine TC.skipk ?_
        refine TC.k ?_
        refine TC.block ?_
        refine TC.k ?_
        refine TC.region ?_
        obtain ⟨x46, hx47, hb44⟩ := bind_some hb44
        refine TO.s rfl rfl rfl (StepS.idx rfl rfl e1.tl.tl.tl.tl.tl.tl ksliceB_23_106_4_true (idx_spec hx47).1 (idxm_lt hx47)) ?_
        refine TO.s rfl rfl rfl (StepS.ldE rfl e1.tl.tl.tl.tl.tl.tl kaggB_106_4_true rfl (idxm hx47)) ?_
        refine TO.alloc kinfo_106_bind_zero_some_agg_I_0_I_0_I_0_I_0 rfl rfl fun b48 => ?_
        refine TO.stB (us := [I x46.1, I x46.2.1, I x46.2.2.1, I x46.2.2.2]) 0 [I x46.1, I x46.2.1, I x46.2.2.1, I x46.2.2.2] rfl rfl rfl ksizeB_106_4_true rfl rfl rfl (by simp [Value.oneCell']) rfl ?_
        refine TO.code ?_
        refine TC.region_any (Bx b48 106 [I x46.1, I x46.2.1, I x46.2.2.1, I x46.2.2.2] :: Bx b15 80 [v16, U 0, U 0, I 0] :: Bx b2 80 [.slice none 0 0, U 0, U 0, I 0] :: L) 8 9 kfollows_mixedOrders_true rfl ?_
        refine TA.takeW 0 rfl rfl rfl rfl (StepS.fld rfl kfieldB_80_0_0_true) (by kernel_rfl) (by kernel_rfl) (by kernel_rfl) rfl (.inr (fun _ s => Sat.by [6, 4, 2] 3 4 (by kernel_rfl) s)) ?_
        refine TA.take 1 rfl rfl rfl rfl (StepS.ldB rfl (Ent.at 1 rfl) kscalB_24_true rfl) (by kernel_rfl) (by kernel_rfl) (by kernel_rfl) (by kernel_rfl) (by kernel_rfl) (fun _ s => Sat.by [6, 4, 2] 3 4 (by kernel_rfl) s) ?_
        refine TA.takeW 2 rfl rfl rfl rfl (StepS.move rfl) (by kernel_rfl) (by kernel_rfl) (by kernel_rfl) rfl (.inr (fun _ s => Sat.by [6, 4, 2] 3 4 (by kernel_rfl) s)) ?_
        refine TA.take 3 rfl rfl rfl rfl (StepS.ldBA rfl (Ent.at 0 rfl) kaggB_106_4_true rfl rfl) (by kernel_rfl) (by kernel_rfl) (by kernel_rfl) (by kernel_rfl) (by kernel_rfl) (fun _ s => Sat.by [6, 4, 2] 3 4 (by kernel_rfl) s) ?_
        refine TA.all1 (i := 4) (by kernel_rfl) ?_
        refine TB.of rfl ?_
        refine TO.ghost (fun _ s => Sat.front 2 rfl s) ?_
        refine TO.ghost (fun _ s => Sat.front 5 rfl s) ?_
        refine TO.ghost (fun _ s => Sat.front 5 rfl s) ?_
        obtain ⟨⟨rq49_4_1, rq49_4_2⟩, hcq49_4_3, hb44⟩ := bind_some hb44
        refine TO.callO kcallB_72_true rfl rfl rfl (fun _ st => C72 (a0 := (y23, y21))  hcq49_4_3 st) ?_
        rintro _ _ ⟨rq49_4_5, hdq49_4_6, rfl, rfl⟩
        refine TA.back (.inr (fun _ s => Sat.by [6, 6, 5] 3 4 (by kernel_rfl) s)) ?_
        refine TA.asL (L' := (Bx b14 176 [v8, .map (some rq49_4_5)] :: OwnS 178 5 v8 (rq49_4_2.1.map cTiibiu32iu32) :: MS (fun k : Int × Int => .agg #[I k.1, I k.2]) 3 1 cI rq49_4_5 hdq49_4_6 (rq49_4_2.2) :: Bx b48 106 [I x46.1, I x46.2.1, I x46.2.2.1, I x46.2.2.2] :: OwnS 28 1 v16 (y18.map cI) :: Bx b15 80 [v16, U 0, U 0, I 0] :: Bx b2 80 [.slice none 0 0, U 0, U 0, I 0] :: L)) (listed' := #[true, true, true, true, true, false, false, false, false]) (by kernel_rfl) (by kernel_rfl) ?_
        refine TA.all1 (i := 5) (by kernel_rfl) ?_
        refine TB.of rfl ?_
        refine TO.litS (f := cI) ([rq49_4_1] : List Int) kelemB_24_28_1_8_true kinfo_28_bind_zero_some_I_0 rfl rfl (fun _ => rfl) rfl rfl (by kernel_rfl) rfl fun vq49_5_1 => ?_
        refine TA.back (.inr (fun _ s => Sat.by [7, 7, 6] 3 5 (by kernel_rfl) s)) ?_
        refine TA.asL (L' := (OwnS 28 1 vq49_5_1 (([rq49_4_1] : List Int).map cI) :: Bx b14 176 [v8, .map (some rq49_4_5)] :: OwnS 178 5 v8 (rq49_4_2.1.map cTiibiu32iu32) :: MS (fun k : Int × Int => .agg #[I k.1, I k.2]) 3 1 cI rq49_4_5 hdq49_4_6 (rq49_4_2.2) :: Bx b48 106 [I x46.1, I x46.2.1, I x46.2.2.1, I x46.2.2.2] :: OwnS 28 1 v16 (y18.map cI) :: Bx b15 80 [v16, U 0, U 0, I 0] :: Bx b2 80 [.slice none 0 0, U 0, U 0, I 0] :: L)) (listed' := #[true, true, true, true, true, true, false, false, false]) (by kernel_rfl) (by kernel_rfl) ?_
        refine TA.all1 (i := 6) (by kernel_rfl) ?_
        refine TB.of rfl ?_
        obtain ⟨yq49_6_1, hkq49_6_2, hb44⟩ := bind_some hb44
        refine TO.app (k := 5) (f := cI) kelemB_24_28_1_8_true (by decide) rfl rfl rfl (OwnS.rd (Ent.at 0 rfl)) hkq49_6_2 (fun x c hc => by simp [Value.oneCell'] at hc ⊢; first | (obtain rfl := hc; rfl) | (rcases hc with rfl <;> rfl)) rfl rfl fun vq49_6_3 => ?_
        refine TA.back (.inr (fun _ s => Sat.by [7, 7, 6] 3 5 (by kernel_rfl) s)) ?_
        refine TA.asL (L' := (OwnS 28 1 vq49_5_1 (([rq49_4_1] : List Int).map cI) :: Bx b14 176 [v8, .map (some rq49_4_5)] :: OwnS 178 5 v8 (rq49_4_2.1.map cTiibiu32iu32) :: MS (fun k : Int × Int => .agg #[I k.1, I k.2]) 3 1 cI rq49_4_5 hdq49_4_6 (rq49_4_2.2) :: Bx b48 106 [I x46.1, I x46.2.1, I x46.2.2.1, I x46.2.2.2] :: OwnS 28 1 vq49_6_3 (yq49_6_1.map cI) :: Bx b15 80 [v16, U 0, U 0, I 0] :: Bx b2 80 [.slice none 0 0, U 0, U 0, I 0] :: L)) (listed' := #[true, true, true, true, true, true, true, false, false]) (by kernel_rfl) (by kernel_rfl) ?_
        refine TA.takeW 7 rfl rfl rfl rfl (StepS.fld rfl kfieldB_80_0_0_true) (by kernel_rfl) (by kernel_rfl) (by kernel_rfl) rfl (.inr (fun _ s => Sat.by [7, 7, 6] 3 5 (by kernel_rfl) s)) ?_
        refine TA.all1 (i := 8) (by kernel_rfl) ?_
        refine TB.of rfl ?_
        refine TO.pure (fun _ s => Rd.one (OwnS.rd (Ent.at 5 rfl)) s) fun ocq49_8_1 => ?_
        refine TO.stB (us := [vq49_6_3]) 6 [vq49_6_3, U 0, U 0, I 0] rfl rfl rfl ksizeB_24_1_true ocq49_8_1.2 rfl rfl (by intro u hu; simp only [List.mem_cons, List.not_mem_nil, or_false] at hu; rcases hu with rfl <;> first | exact ocq49_8_1.1 | rfl) rfl ?_
        refine TA.back (.inl (by kernel_rfl)) ?_
        refine TA.asL (L' := (OwnS 28 1 vq49_5_1 (([rq49_4_1] : List Int).map cI) :: Bx b14 176 [v8, .map (some rq49_4_5)] :: OwnS 178 5 v8 (rq49_4_2.1.map cTiibiu32iu32) :: MS (fun k : Int × Int => .agg #[I k.1, I k.2]) 3 1 cI rq49_4_5 hdq49_4_6 (rq49_4_2.2) :: Bx b48 106 [I x46.1, I x46.2.1, I x46.2.2.1, I x46.2.2.2] :: OwnS 28 1 vq49_6_3 (yq49_6_1.map cI) :: Bx b15 80 [vq49_6_3, U 0, U 0, I 0] :: Bx b2 80 [.slice none 0 0, U 0, U 0, I 0] :: L)) (listed' := #[true, true, true, true, true, true, true, true, true]) (by kernel_rfl) (by kernel_rfl) ?_
        refine TA.code (by kernel_rfl) ?_
        refine TC.region ?_
        refine TO.s rfl rfl rfl (StepS.ari rfl rfl rfl) ?_
        refine TO.s rfl rfl rfl (StepS.move rfl) ?_
        cases hb44
        refine TO.nil fun a w e s => ?_
        exact ⟨vq49_6_3, rq49_4_5, hdq49_4_6, e.sub (lk_of_allIn ⟨rfl, rfl, rfl, rfl, rfl, rfl, trivial⟩), s.mono fun _ s => (by exact Sat.by [7, 3, 3, 7, 5, 7] 6 2 (by kernel_rfl) s)⟩
      · replace hb44 := cond_f hc45 hb44
        cases hb44
        refine TC.exit rfl fun a w e s => ?_
        exact ⟨v16, r20, hs22, e.sub (lk_of_allIn ⟨rfl, rfl, rfl, trivial⟩), s⟩
    · exact fun a w e s => ⟨.slice none 0 0, r10, hs11, e.sub (lk_of_allIn ⟨rfl, rfl, rfl, rfl, rfl, rfl, trivial⟩), s.mono fun _ s => (by replace s := Sat.nilS (e := 28) (sz := 1) (f := cI) s; exact Sat.by [5, 5, 4, 4, 5, 5] 6 0 (by kernel_rfl) s)⟩
    · rintro ⟨y36, y39, y41⟩ rfl a w ⟨v34, r38, hs40, he, hs⟩
      dsimp only [Ctl.on] at hm
      refine TC.use ?_ he hs
      refine TC.k ?_
      refine TC.k ?_
      refine TC.region ?_
      refine TO.s rfl rfl rfl (StepS.move rfl) ?_
      refine TO.s rfl rfl rfl (StepS.nilc rfl) ?_
      refine TO.s rfl rfl rfl (StepS.fld rfl kfieldB_176_0_0_true) ?_
      refine TO.s rfl rfl rfl (StepS.ldB rfl (Ent.at 3 rfl) kscalB_174_true rfl) ?_
      refine TO.s rfl rfl rfl (StepS.lenm rfl (OwnS.rd (Ent.at 4 rfl)) ksliceB_174_178_5_true rfl) ?_
      refine TO.s rfl rfl rfl (StepS.move rfl) ?_
      refine TO.code ?_
      obtain ⟨o58, hw59, hm⟩ := bind_some hm
      refine TC.loop hw59 (fun (x50, x51, x52) => fun a w => Mid 90 B [(4, .pointer (some ⟨b2, 0, none⟩)), (6, .pointer (some ⟨b14, 0, none⟩)), (7, .pointer (some ⟨b15, 0, none⟩)), (49, v8), (50, I (y41.length : Int)), (51, I x52)] (OwnS 28 1 v34 (y36.map cI) :: MS (fun k : Int × Int => .agg #[I k.1, I k.2]) 3 1 cI r38 hs40 (y39) :: Bx b15 80 [v34, U x50, U x51, I 0] :: Bx b14 176 [v8, .map (some r38)] :: OwnS 178 5 v8 (y41.map cTiibiu32iu32) :: Bx b2 80 [.slice none 0 0, U 0, U 0, I 0] :: L) a w) (fun (x56, x57) => fun a w => Mid 90 B [(4, .pointer (some ⟨b2, 0, none⟩)), (6, .pointer (some ⟨b14, 0, none⟩)), (7, .pointer (some ⟨b15, 0, none⟩))] (OwnS 28 1 v34 (y36.map cI) :: MS (fun k : Int × Int => .agg #[I k.1, I k.2]) 3 1 cI r38 hs40 (y39) :: Bx b15 80 [v34, U x56, U x57, I 0] :: Bx b14 176 [v8, .map (some r38)] :: OwnS 178 5 v8 (y41.map cTiibiu32iu32) :: Bx b2 80 [.slice none 0 0, U 0, U 0, I 0] :: L) a w) (fun (_ : Unit) _ _ => False) ?_ ?_ ?_ ?_
      · rintro ⟨x50, x51, x52⟩ o58r hb60 a w ⟨he, hs⟩
        dsimp only [F38_L1] at hb60
        refine TC.use ?_ he hs
        refine TC.k ?_
        refine TC.region ?_
        refine TO.s rfl rfl rfl (StepS.cmp rfl rfl rfl) ?_
        refine TO.code ?_
        refine TC.k ?_
        refine TC.cond rfl (fun hc61 => ?_) (fun hc61 => ?_)
        · replace hb60 := cond_t hc61 hb60
          refine TC.skipk ?_
          refine TC.k ?_
          obtain ⟨⟨x62, x63⟩, hj64, hb60⟩ := bind_some hb60
          first | refine TC.cutM (fun a w => Mid 90 B [(4, .pointer (some ⟨b2, 0, none⟩)), (6, .pointer (some ⟨b14, 0, none⟩)), (7, .pointer (some ⟨b15, 0, none⟩)), (49, v8), (50, I (y41.length : Int)), (51, I x52)] (OwnS 28 1 v34 (y36.map cI) :: MS (fun k : Int × Int => .agg #[I k.1, I k.2]) 3 1 cI r38 hs40 (y39) :: Bx b15 80 [v34, U x62, U x63, I 0] :: Bx b14 176 [v8, .map (some r38)] :: OwnS 178 5 v8 (y41.map cTiibiu32iu32) :: Bx b2 80 [.slice none 0 0, U 0, U 0, I 0] :: L) a w) ?_ ?_ | refine TC.cutX (fun a w => Mid 90 B [(4, .pointer (some ⟨b2, 0, none⟩)), (6, .pointer (some ⟨b14, 0, none⟩)), (7, .pointer (some ⟨b15, 0, none⟩)), (49, v8), (50, I (y41.length : Int)), (51, I x52)] (OwnS 28 1 v34 (y36.map cI) :: MS (fun k : Int × Int => .agg #[I k.1, I k.2]) 3 1 cI r38 hs40 (y39) :: Bx b15 80 [v34, U x62, U x63, I 0] :: Bx b14 176 [v8, .map (some r38)] :: OwnS 178 5 v8 (y41.map cTiibiu32iu32) :: Bx b2 80 [.slice none 0 0, U 0, U 0, I 0] :: L) a w) ?_ ?_
          · refine TC.block ?_
            refine TC.k ?_
            refine TC.region ?_
            refine TO.s rfl rfl rfl (StepS.move rfl) ?_
            obtain ⟨x65, hx66, hj64⟩ := bind_some hj64
            refine TO.s rfl rfl rfl (StepS.idx rfl rfl (OwnS.rd (Ent.at 4 rfl)) ksliceB_174_178_5_true (idx_spec hx66).1 (idxm_lt hx66)) ?_
            refine TO.s rfl rfl rfl (StepS.ldE rfl (OwnS.rd (Ent.at 4 rfl)) kaggB_178_5_true rfl (idxm hx66)) ?_
            refine TO.alloc kinfo_178_bind_zero_some_agg_I_0_I_0_bool_false_U_0_U_0 rfl rfl fun b67 => ?_
            refine TO.s rfl rfl rfl (StepS.assign rfl) ?_
            refine TO.stB (us := [I x65.1, I x65.2.1, .bool x65.2.2.1, U x65.2.2.2.1, U x65.2.2.2.2]) 0 [I x65.1, I x65.2.1, .bool x65.2.2.1, U x65.2.2.2.1, U x65.2.2.2.2] rfl rfl rfl ksizeB_178_5_true rfl rfl rfl (by simp [Value.oneCell']) rfl ?_
            refine TO.code ?_
            refine TC.k ?_
            refine TC.k ?_
            refine TC.region ?_
            refine TO.s rfl rfl rfl (StepS.fld rfl kfieldB_178_2_2_true) ?_
            refine TO.s rfl rfl rfl (StepS.ldB rfl (Ent.at 0 rfl) kscalB_4_true rfl) ?_
            refine TO.code ?_
            obtain ⟨x68, hj69, hj64⟩ := bind_some hj64
            first | refine TC.cutM (fun a w => Mid 90 B [(4, .pointer (some ⟨b2, 0, none⟩)), (6, .pointer (some ⟨b14, 0, none⟩)), (7, .pointer (some ⟨b15, 0, none⟩)), (10, I x52), (11, .pointer (some ⟨b67, 0, none⟩)), (49, v8), (50, I (y41.length : Int)), (51, I x52)] (Bx b67 178 [I x65.1, I x65.2.1, .bool x65.2.2.1, U x65.2.2.2.1, U x65.2.2.2.2] :: OwnS 28 1 v34 (y36.map cI) :: MS (fun k : Int × Int => .agg #[I k.1, I k.2]) 3 1 cI r38 hs40 (y39) :: Bx b15 80 [v34, U x68, U x51, I 0] :: Bx b14 176 [v8, .map (some r38)] :: OwnS 178 5 v8 (y41.map cTiibiu32iu32) :: Bx b2 80 [.slice none 0 0, U 0, U 0, I 0] :: L) a w) ?_ ?_ | refine TC.cutX (fun a w => Mid 90 B [(4, .pointer (some ⟨b2, 0, none⟩)), (6, .pointer (some ⟨b14, 0, none⟩)), (7, .pointer (some ⟨b15, 0, none⟩)), (10, I x52), (11, .pointer (some ⟨b67, 0, none⟩)), (49, v8), (50, I (y41.length : Int)), (51, I x52)] (Bx b67 178 [I x65.1, I x65.2.1, .bool x65.2.2.1, U x65.2.2.2.1, U x65.2.2.2.2] :: OwnS 28 1 v34 (y36.map cI) :: MS (fun k : Int × Int => .agg #[I k.1, I k.2]) 3 1 cI r38 hs40 (y39) :: Bx b15 80 [v34, U x68, U x51, I 0] :: Bx b14 176 [v8, .map (some r38)] :: OwnS 178 5 v8 (y41.map cTiibiu32iu32) :: Bx b2 80 [.slice none 0 0, U 0, U 0, I 0] :: L) a w) ?_ ?_
            · refine TC.cond rfl (fun hc70 => ?_) (fun hc70 => ?_)
              · replace hj69 := cond_t hc70 hj69
                refine TC.region_tail 6 kfollows_mixedOrders_true (by kernel_rfl) ?_
                refine TS.s rfl rfl rfl (StepS.fld rfl kfieldB_80_1_1_true) ?_
                refine TS.s rfl rfl rfl (StepS.ldB rfl (Ent.at 3 rfl) kscalB_36_true rfl) ?_
                refine TS.s rfl rfl rfl (StepS.move rfl) ?_
                obtain ⟨k71, hk72, hj69⟩ := bind_some hj69
                refine TS.s rfl rfl rfl (StepS.shlk (m := 1#32) rfl rfl hk72) ?_
                refine TS.s rfl rfl rfl (StepS.bitU rfl rfl rfl) ?_
                refine TS.s rfl rfl rfl (StepS.fld rfl kfieldB_80_1_1_true) ?_
                refine TS.nil ?_
                refine TO.at ?_
                refine TO.stB (us := [U (x50 ||| ((1#32) <<< k71))]) 3 [v34, U (x50 ||| ((1#32) <<< k71)), U x51, I 0] rfl rfl rfl ksizeB_36_1_true rfl rfl rfl (by simp [Value.oneCell']) rfl ?_
                cases hj69
                refine TO.nil fun a w e s => ?_
                exact ⟨e.sub (lk_of_allIn ⟨rfl, rfl, rfl, rfl, rfl, rfl, rfl, rfl, trivial⟩), s⟩
              · replace hj69 := cond_f hc70 hj69
                cases hj69
                refine TC.skip fun a w e s => ?_
                exact ⟨e.sub (lk_of_allIn ⟨rfl, rfl, rfl, rfl, rfl, rfl, rfl, rfl, trivial⟩), s⟩
            · intro a w ⟨he, hs⟩
              refine TC.use ?_ he hs
              refine TC.k ?_
              refine TC.region ?_
              refine TO.s rfl rfl rfl (StepS.fld rfl kfieldB_178_1_1_true) ?_
              refine TO.s rfl rfl rfl (StepS.ldB rfl (Ent.at 0 rfl) kscalB_3_true rfl) ?_
              refine TO.s rfl rfl rfl (StepS.cmp rfl rfl rfl) ?_
              refine TO.code ?_
              refine TC.cond rfl (fun hc73 => ?_) (fun hc73 => ?_)
              · replace hj64 := cond_t hc73 hj64
                refine TC.region_tail 6 kfollows_mixedOrders_true (by kernel_rfl) ?_
                refine TS.s rfl rfl rfl (StepS.fld rfl kfieldB_80_2_2_true) ?_
                refine TS.s rfl rfl rfl (StepS.ldB rfl (Ent.at 3 rfl) kscalB_36_true rfl) ?_
                refine TS.s rfl rfl rfl (StepS.move rfl) ?_
                obtain ⟨k74, hk75, hj64⟩ := bind_some hj64
                refine TS.s rfl rfl rfl (StepS.shlk (m := 1#32) rfl rfl hk75) ?_
                refine TS.s rfl rfl rfl (StepS.bitU rfl rfl rfl) ?_
                refine TS.s rfl rfl rfl (StepS.fld rfl kfieldB_80_2_2_true) ?_
                refine TS.nil ?_
                refine TO.at ?_
                refine TO.stB (us := [U (x51 ||| ((1#32) <<< k74))]) 3 [v34, U x68, U (x51 ||| ((1#32) <<< k74)), I 0] rfl rfl rfl ksizeB_36_1_true rfl rfl rfl (by simp [Value.oneCell']) rfl ?_
                cases hj64
                refine TO.nil fun a w e s => ?_
                exact ⟨e.sub (lk_of_allIn ⟨rfl, rfl, rfl, rfl, rfl, rfl, trivial⟩), s.mono fun _ => Sat.dropN 1⟩
              · replace hj64 := cond_f hc73 hj64
                cases hj64
                refine TC.skip fun a w e s => ?_
                exact ⟨e.sub (lk_of_allIn ⟨rfl, rfl, rfl, rfl, rfl, rfl, trivial⟩), s.mono fun _ => Sat.dropN 1⟩
          · intro a w ⟨he, hs⟩
            refine TC.use ?_ he hs
            refine TC.region ?_
            refine TO.s rfl rfl rfl (StepS.ari rfl rfl rfl) ?_
            refine TO.s rfl rfl rfl (StepS.move rfl) ?_
            cases hb60
            refine TO.nil fun a w e s => ?_
            exact ⟨e.sub (lk_of_allIn ⟨rfl, rfl, rfl, rfl, rfl, rfl, trivial⟩), s⟩
        · replace hb60 := cond_f hc61 hb60
          cases hb60
          refine TC.exit rfl fun a w e s => ?_
          exact ⟨e.sub (lk_of_allIn ⟨rfl, rfl, rfl, trivial⟩), s⟩
      · exact fun a w e s => ⟨e.sub (lk_of_allIn ⟨rfl, rfl, rfl, rfl, rfl, rfl, trivial⟩), s⟩
      · rintro ⟨x56, x57⟩ rfl a w ⟨he, hs⟩
        dsimp only [Ctl.on] at hm
        refine TC.use ?_ he hs
        refine TC.k ?_
        refine TC.k ?_
        refine TC.region ?_
        refine TO.s rfl rfl rfl (StepS.move rfl) ?_
        refine TO.s rfl rfl rfl (StepS.nilc rfl) ?_
        refine TO.s rfl rfl rfl (StepS.fld rfl kfieldB_176_1_1_true) ?_
        refine TO.s rfl rfl rfl (StepS.ldB rfl (Ent.at 3 rfl) kscalB_131_true rfl) ?_
        refine TO.ghost (fun _ s => Sat.front 1 rfl s) ?_
        refine TO.rangeMS kmapGB_131_114_22_true rfl rfl fun it76 => ?_
        refine TO.code ?_
        obtain ⟨o83, hw84, hm⟩ := bind_some hm
        refine TC.rangeM hw84 (fun q77 x81 => fun a w => Mid 90 B [(4, .pointer (some ⟨b2, 0, none⟩)), (7, .pointer (some ⟨b15, 0, none⟩)), (78, .pointer (some ⟨it76, 0, none⟩))] (MSR (fun k : Int × Int => .agg #[I k.1, I k.2]) 3 1 cI it76 r38 hs40 (y39) q77 :: OwnS 28 1 v34 (y36.map cI) :: Bx b15 80 [v34, U x56, U x57, I x81] :: Bx b14 176 [v8, .map (some r38)] :: OwnS 178 5 v8 (y41.map cTiibiu32iu32) :: Bx b2 80 [.slice none 0 0, U 0, U 0, I 0] :: L) a w) (fun x81 => fun a w => Mid 90 B [(4, .pointer (some ⟨b2, 0, none⟩)), (7, .pointer (some ⟨b15, 0, none⟩))] (MS (fun k : Int × Int => .agg #[I k.1, I k.2]) 3 1 cI r38 hs40 (y39) :: OwnS 28 1 v34 (y36.map cI) :: Bx b15 80 [v34, U x56, U x57, I x81] :: Bx b14 176 [v8, .map (some r38)] :: OwnS 178 5 v8 (y41.map cTiibiu32iu32) :: Bx b2 80 [.slice none 0 0, U 0, U 0, I 0] :: L) a w) (fun (_ : Unit) _ _ => False) ?_ ?_ ?_ ?_
        · rintro q77 x81 hb85r a w ⟨he, hs⟩
          refine TC.use ?_ he hs
          refine TC.k ?_
          refine TC.region ?_
          refine TO.nextMS rfl rfl (fun hd87 => ?_) (fun k78 v79 hk80 hn86 => ?_)
          · refine TO.s rfl rfl rfl (StepS.extract rfl rfl) ?_
            refine TO.code ?_
            refine TC.k ?_
            refine TC.condF rfl ?_
            refine TC.exit rfl fun a w e s => ?_
            exact ⟨hd87, e.sub (lk_of_allIn ⟨rfl, rfl, trivial⟩), s.mono fun _ s => (by replace s := Sat.front 0 rfl s; replace s := Sat.unrangeMS s; exact s)⟩
          · refine TO.s rfl rfl rfl (StepS.extract rfl rfl) ?_
            refine TO.code ?_
            obtain ⟨_, hb850⟩ := hb85r k78 v79 hk80 hn86
            have hb85 := hb850
            refine TC.rmore (Pre := fun q77 x81 => fun a w => Mid 90 B [(4, .pointer (some ⟨b2, 0, none⟩)), (7, .pointer (some ⟨b15, 0, none⟩)), (78, .pointer (some ⟨it76, 0, none⟩))] (MSR (fun k : Int × Int => .agg #[I k.1, I k.2]) 3 1 cI it76 r38 hs40 (y39) q77 :: OwnS 28 1 v34 (y36.map cI) :: Bx b15 80 [v34, U x56, U x57, I x81] :: Bx b14 176 [v8, .map (some r38)] :: OwnS 178 5 v8 (y41.map cTiibiu32iu32) :: Bx b2 80 [.slice none 0 0, U 0, U 0, I 0] :: L) a w) (Ret := fun (_ : Unit) _ _ => False) 4 hk80 hn86 hb850 ?_
            dsimp only [F38_L2] at hb85
            refine TC.k ?_
            refine TC.condT rfl ?_
            refine TC.skipk ?_
            refine TC.block ?_
            refine TC.k ?_
            refine TC.region ?_
            refine TO.s rfl rfl rfl (StepS.entryMS rfl (Ent.at 0 rfl)) ?_
            refine TO.s rfl rfl rfl (StepS.extract rfl rfl) ?_
            refine TO.s rfl rfl rfl (StepS.assign rfl) ?_
            refine TO.code ?_
            refine TC.region ?_
            refine TO.s rfl rfl rfl (StepS.fld rfl kfieldB_80_3_3_true) ?_
            refine TO.s rfl rfl rfl (StepS.ldB rfl (Ent.at 2 rfl) kscalB_3_true rfl) ?_
            refine TO.s rfl rfl rfl (StepS.move rfl) ?_
            refine TO.s rfl rfl rfl (StepS.lenm rfl (MSR.row (Ent.at 0 rfl) hk80) ksliceB_22_3_1_true rfl) ?_
            refine TO.s rfl rfl rfl (StepS.ari rfl rfl rfl) ?_
            refine TO.s rfl rfl rfl (StepS.fld rfl kfieldB_80_3_3_true) ?_
            refine TO.stB (us := [I (w64 (x81 + (v79.length : Int)))]) 2 [v34, U x56, U x57, I (w64 (x81 + (v79.length : Int)))] rfl rfl rfl ksizeB_3_1_true rfl rfl rfl (by simp [Value.oneCell']) rfl ?_
            cases hb85
            refine TO.nil fun a w e s => ?_
            exact ⟨e.sub (lk_of_allIn ⟨rfl, rfl, rfl, trivial⟩), s⟩
        · exact fun a w e s => ⟨e.sub (lk_of_allIn ⟨rfl, rfl, rfl, trivial⟩), s⟩
        · rintro x81 rfl a w ⟨he, hs⟩
          dsimp only [Ctl.onN] at hm
          refine TC.use ?_ he hs
          refine TC.k ?_
          refine TC.region ?_
          refine TO.s rfl rfl rfl (StepS.ldBA rfl (Ent.at 2 rfl) kaggB_80_4_true rfl rfl) ?_
          refine TO.pure (fun _ s => Rd.one (OwnS.rd (Ent.at 1 rfl)) s) fun oc88 => ?_
          refine TO.stB (us := [v34, U x56, U x57, I x81]) 5 [v34, U x56, U x57, I x81] rfl rfl rfl ksizeB_80_4_true rfl rfl rfl (by intro u hu; simp only [List.mem_cons, List.not_mem_nil, or_false] at hu; rcases hu with rfl | rfl | rfl | rfl <;> first | exact oc88.1 | rfl) rfl ?_
          refine TO.s rfl rfl rfl (StepS.assign rfl) ?_
          refine TO.code ?_
          cases hm
          refine TC.ret fun a w e s => ?_
          refine FRet.cell2 (P := Try.prog) (fn := Try.f38) e s rfl rfl rfl (Ent.at 5 rfl) kaggB_80_4_true rfl ?_
          refine ⟨_, _, rfl, ⟨(v34), rfl, rfl⟩, ?_⟩
          refine s.mono fun _ s => ?_
          replace s := Sat.front 1 rfl s
          replace s := Sat.erase 1 s
          replace s := Sat.erase 1 s
          replace s := Sat.erase 1 s
          replace s := Sat.erase 1 s
          replace s := Sat.erase 1 s
          exact s
        · rintro r rfl
          exact fun a w h => h.elim
      · rintro r rfl
        exact fun a w h => h.elim
    · rintro r rfl
      exact fun a w h => h.elim
end Go.Proofs.Ythfkdepcnhhepaa
