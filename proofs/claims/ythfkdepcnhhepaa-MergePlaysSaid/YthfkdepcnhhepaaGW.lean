/-
  The walks: each Go function returns what its model says. Written by a program (gen.py).
-/
import Derived.Test.YthfkdepcnhhepaaProg
import Derived.KernelRfl
import Derived.Test.YthfkdepcnhhepaaKW
import Derived.Test.YthfkdepcnhhepaaGM
namespace Go.Proofs.Ythfkdepcnhhepaa
open Go Go.Bk
set_option linter.unusedVariables false
set_option linter.unnecessarySimpa false
theorem kscalB_162_true : scalB Try.prog 162 = true := by kernel_rfl
theorem kfieldB_165_0_0_true : fieldB Try.prog 165 0 0 = true := by kernel_rfl
theorem kscalB_163_true : scalB Try.prog 163 = true := by kernel_rfl
theorem ksliceB_163_168_4_true : sliceB Try.prog 163 168 4 = true := by kernel_rfl
theorem ktagB_217_3_true : tagB Try.prog 217 3 = true := by kernel_rfl
theorem kunderlying_3_some_int_i64 : Try.prog.underlying 3 = some (.int .i64) := by kernel_rfl
theorem ksizeB_3_1_true : sizeB Try.prog 3 1 = true := by kernel_rfl
theorem kstoodInHeld_217_false : Try.prog.stoodInHeld 217 = false := by kernel_rfl
theorem kfieldB_168_0_0_true : fieldB Try.prog 168 0 0 = true := by kernel_rfl
theorem kscalB_166_true : scalB Try.prog 166 = true := by kernel_rfl
theorem kmapGB_166_217_4_true : mapGB Try.prog 166 217 4 = true := by kernel_rfl
theorem kinfo_217_bind_zero_some_agg_I_0_I_0 : (Try.prog.info? 217).bind (·.zero) = some (.agg #[I 0, I 0]) := by kernel_rfl
theorem ksizeB_217_2_true : sizeB Try.prog 217 2 = true := by kernel_rfl
theorem kfieldB_217_0_0_true : fieldB Try.prog 217 0 0 = true := by kernel_rfl
theorem kfieldB_168_1_1_true : fieldB Try.prog 168 1 1 = true := by kernel_rfl
theorem kaggB_217_2_true : aggB Try.prog 217 2 = true := by kernel_rfl
theorem kinfo_4_bind_zero_some_bool_false : (Try.prog.info? 4).bind (·.zero) = some (.bool false) := by kernel_rfl
theorem kelemB_169_217_2_16_true : elemB Try.prog 169 217 2 16 = true := by kernel_rfl
theorem kfieldB_168_2_2_true : fieldB Try.prog 168 2 2 = true := by kernel_rfl
theorem kfieldB_168_3_3_true : fieldB Try.prog 168 3 3 = true := by kernel_rfl
theorem kfieldB_106_0_0_true : fieldB Try.prog 106 0 0 = true := by kernel_rfl
theorem kcallB_101_true : callB Try.prog 101 = true := by kernel_rfl
theorem kfieldB_106_3_3_true : fieldB Try.prog 106 3 3 = true := by kernel_rfl
theorem kfieldB_165_1_1_true : fieldB Try.prog 165 1 1 = true := by kernel_rfl
theorem kcallB_69_true : callB Try.prog 69 = true := by kernel_rfl
theorem ksliceB_169_217_2_true : sliceB Try.prog 169 217 2 = true := by kernel_rfl
theorem kcallB_102_true : callB Try.prog 102 = true := by kernel_rfl
theorem kinfo_75_bind_zero_some_agg_slice_none_0_0_slice_none_0_0_slice_none_0_0 : (Try.prog.info? 75).bind (·.zero) = some (.agg #[.slice none 0 0, .slice none 0 0, .slice none 0 0]) := by kernel_rfl
theorem ksliceB_23_106_4_true : sliceB Try.prog 23 106 4 = true := by kernel_rfl
theorem ksizeB_75_3_true : sizeB Try.prog 75 3 = true := by kernel_rfl
theorem kaggB_75_3_true : aggB Try.prog 75 3 = true := by kernel_rfl
theorem kelemB_22_3_1_8_true : elemB Try.prog 22 3 1 8 = true := by kernel_rfl
theorem kinfo_3_bind_zero_some_I_0 : (Try.prog.info? 3).bind (·.zero) = some (I 0) := by kernel_rfl
theorem kelemB_163_168_4_64_true : elemB Try.prog 163 168 4 64 = true := by kernel_rfl
theorem kinfo_168_bind_zero_some_agg_map_none_map_none_slice_none_0_0_slice_none_0_0 : (Try.prog.info? 168).bind (·.zero) = some (.agg #[.map none, .map none, .slice none 0 0, .slice none 0 0]) := by kernel_rfl
theorem ksizeB_163_1_true : sizeB Try.prog 163 1 = true := by kernel_rfl
theorem kaggB_106_4_true : aggB Try.prog 106 4 = true := by kernel_rfl
theorem kinfo_106_bind_zero_some_agg_I_0_I_0_I_0_I_0 : (Try.prog.info? 106).bind (·.zero) = some (.agg #[I 0, I 0, I 0, I 0]) := by kernel_rfl
theorem ksizeB_106_4_true : sizeB Try.prog 106 4 = true := by kernel_rfl
theorem kfieldB_75_0_0_true : fieldB Try.prog 75 0 0 = true := by kernel_rfl
theorem kscalB_24_true : scalB Try.prog 24 = true := by kernel_rfl
theorem kcallB_68_true : callB Try.prog 68 = true := by kernel_rfl
theorem kelemB_24_28_1_8_true : elemB Try.prog 24 28 1 8 = true := by kernel_rfl
theorem kinfo_28_bind_zero_some_I_0 : (Try.prog.info? 28).bind (·.zero) = some (I 0) := by kernel_rfl
theorem ksizeB_24_1_true : sizeB Try.prog 24 1 = true := by kernel_rfl
theorem kaggB_168_4_true : aggB Try.prog 168 4 = true := by kernel_rfl
theorem ksizeB_168_4_true : sizeB Try.prog 168 4 = true := by kernel_rfl
theorem kfieldB_75_1_1_true : fieldB Try.prog 75 1 1 = true := by kernel_rfl
theorem kscalB_50_true : scalB Try.prog 50 = true := by kernel_rfl
theorem kcallB_70_true : callB Try.prog 70 = true := by kernel_rfl
theorem kelemB_50_22_1_24_true : elemB Try.prog 50 22 1 24 = true := by kernel_rfl
theorem kfieldB_75_2_2_true : fieldB Try.prog 75 2 2 = true := by kernel_rfl
theorem ksizeB_50_1_true : sizeB Try.prog 50 1 = true := by kernel_rfl
theorem ksizeB_22_1_true : sizeB Try.prog 22 1 = true := by kernel_rfl

set_option maxRecDepth 100000 in
theorem C101 {B : World} {L : List HP} {a0 : Int} {a1_0 : Nat} {b1_ : Nat} {c1_ : Nat} {h1_0 : Value} {u1_1_0 : Value} {r0 : Bool} (g1 : Ent L (Bx b1_ 162 [.pointer (some ⟨c1_, 0, none⟩)])) (gg1 : Ent L (Bx c1_ 165 [h1_0, u1_1_0])) (e1_0 : Ent L (Hd h1_0 a1_0)) (hm : F101 a0 a1_0 = some r0) {w : World} (st : St B L w) : Calls Try.prog 101 #[I a0, .pointer (some ⟨b1_, 0, none⟩)] w (fun e w' => (e = .returned (.bool r0) ∧ St B (L) w')) := by
  refine calls_of (N := 15) (L := L) (args := [I a0, .pointer (some ⟨b1_, 0, none⟩)]) Try.func101 rfl rfl rfl ?_ st
  dsimp only [F101] at hm
  refine TC.k ?_
  refine TC.region ?_
  refine TO.s rfl rfl rfl (StepS.assign rfl) ?_
  refine TO.code ?_
  refine TC.k ?_
  refine TC.region ?_
  refine TO.s rfl rfl rfl (StepS.move rfl) ?_
  refine TO.s rfl rfl rfl (StepS.cmp rfl rfl rfl) ?_
  refine TO.s rfl rfl rfl (StepS.move rfl) ?_
  refine TO.mid1 8 14 (.bool ((decide (a0 < 0)) || (decide (a0 ≥ (a1_0 : Int))))) ?_ ?_
  · refine bcase ((decide (a0 < 0))) (fun hb1 => ?_) (fun hb1 => ?_)
    · refine TO.skip rfl rfl rfl (skipT hb1) rfl rfl ?_
      refine TO.skip rfl rfl rfl (skipT hb1) rfl rfl ?_
      refine TO.skip rfl rfl rfl (skipT hb1) rfl rfl ?_
      refine TO.skip rfl rfl rfl (skipT hb1) rfl rfl ?_
      refine TO.skip rfl rfl rfl (skipT hb1) rfl rfl ?_
      refine TO.skip rfl rfl rfl (skipT hb1) rfl rfl ?_
      refine TO.skip rfl rfl rfl (skipT hb1) rfl rfl ?_
      refine TO.s rfl rfl rfl (StepS.pickT rfl hb1 rfl) ?_
      exact TO.up1 8 0 rfl rfl (by rw [hb1]; rfl) rfl
    · refine TO.sw rfl rfl rfl hb1 rfl rfl (StepS.move rfl) ?_
      refine TO.sw rfl rfl rfl hb1 rfl rfl (StepS.ldB rfl g1 kscalB_162_true rfl) ?_
      refine TO.sw rfl rfl rfl hb1 rfl rfl (StepS.nilc rfl) ?_
      refine TO.sw rfl rfl rfl hb1 rfl rfl (StepS.fld rfl kfieldB_165_0_0_true) ?_
      refine TO.sw rfl rfl rfl hb1 rfl rfl (StepS.ldB rfl gg1 kscalB_163_true rfl) ?_
      refine TO.sw rfl rfl rfl hb1 rfl rfl (StepS.lenHd rfl e1_0 ksliceB_163_168_4_true rfl) ?_
      refine TO.sw rfl rfl rfl hb1 rfl rfl (StepS.cmp rfl rfl rfl) ?_
      refine TO.s rfl rfl rfl (StepS.pickF rfl hb1 rfl) ?_
      exact TO.up1 8 0 rfl rfl (by rw [hb1]; rfl) rfl
  refine TO.s rfl rfl rfl (StepS.assign rfl) ?_
  refine TO.code ?_
  cases hm
  refine TC.ret fun a w e s => ?_
  refine FRet.mk1 (P := Try.prog) (fn := Try.f101) (t := 3) e rfl rfl ?_
  exact ⟨rfl, s.mono fun _ => Sat.dropN 0⟩

set_option maxRecDepth 100000 in
theorem C69 {B : World} {L : List HP} {a0 : ((Int × Int) → Option Bool) × ((Int × Int) → Option Bool)} {a1 : Int} {b0_ o0_ : Nat} {u0_2 : Value} {u0_3 : Value} {h0_1 : Nat} {h0_2 : Nat} {r0 : List (Int × Int)} (g0 : Ent L (Cel b0_ o0_ [.map (some h0_1), .map (some h0_2), u0_2, u0_3])) (eh0_2 : Ent L (MF (fun k : Int × Int => .agg #[I k.1, I k.2]) (fun x : Bool => .bool x) h0_2 (a0.2))) (hm : F69 a0 a1 = some r0) {w : World} (st : St B (MF (fun k : Int × Int => .agg #[I k.1, I k.2]) (fun x : Bool => .bool x) h0_1 (a0.1) :: L) w) : Calls Try.prog 69 #[.pointer (some ⟨b0_, o0_, none⟩), I a1] w (fun e w' => ∃ v M, e = .returned v ∧ (∃ (qv1 : Value), v = qv1 ∧ M = (MF (fun k : Int × Int => .agg #[I k.1, I k.2]) (fun x : Bool => .bool x) h0_1 (a0.1) :: OwnP 217 2 qv1 cTii (r0) :: L)) ∧ St B M w') := by
  refine calls_of (N := 34) (L := (MF (fun k : Int × Int => .agg #[I k.1, I k.2]) (fun x : Bool => .bool x) h0_1 (a0.1) :: L)) (args := [.pointer (some ⟨b0_, o0_, none⟩), I a1]) Try.func69 rfl rfl rfl ?_ st
  dsimp only [F69] at hm
  refine TC.k ?_
  refine TC.region ?_
  refine TO.s rfl rfl rfl (StepS.assign rfl) ?_
  refine TO.code ?_
  refine TC.k ?_
  refine TC.region ?_
  refine TO.s rfl rfl rfl (StepS.assign rfl) ?_
  refine TO.code ?_
  refine TC.k ?_
  refine TC.k ?_
  refine TC.region ?_
  refine TO.s rfl rfl rfl (StepS.move rfl) ?_
  refine TO.s rfl rfl rfl (StepS.nilc rfl) ?_
  refine TO.s rfl rfl rfl (StepS.fld rfl kfieldB_168_0_0_true) ?_
  refine TO.s rfl rfl rfl (StepS.ldC (j := 0) rfl g0.tl kscalB_166_true rfl rfl) ?_
  refine TO.range kmapGB_166_217_4_true rfl rfl fun it4 => ?_
  refine TO.code ?_
  obtain ⟨o15, hw16, hm⟩ := bind_some hm
  refine TC.rangeQ hw16 (fun q5 y11 => fun a w => ∃ v9 : Value, Mid 34 B [(0, .pointer (some ⟨b0_, o0_, none⟩)), (1, I a1), (5, v9), (11, .pointer (some ⟨it4, 0, none⟩))] (OwnS 217 2 v9 (y11.map cTii) :: MFR (fun k : Int × Int => .agg #[I k.1, I k.2]) (fun x : Bool => .bool x) it4 h0_1 (a0.1) q5 :: L) a w) (fun y11 => fun a w => ∃ v9 : Value, Mid 34 B [(5, v9)] (MF (fun k : Int × Int => .agg #[I k.1, I k.2]) (fun x : Bool => .bool x) h0_1 (a0.1) :: OwnS 217 2 v9 (y11.map cTii) :: L) a w) (fun (_ : Unit) _ _ => False) ?_ ?_ ?_
  · rintro q5 y11 hb17r a w ⟨v9, he, hs⟩
    refine TC.use ?_ he hs
    refine TC.k ?_
    refine TC.region ?_
    refine TO.next 1 rfl rfl rfl (fun hd19 => ?_) (fun k6 v7 hk8 hn18 => ?_)
    · refine TO.s rfl rfl rfl (StepS.extract rfl rfl) ?_
      refine TO.code ?_
      refine TC.k ?_
      refine TC.condF rfl ?_
      refine TC.exit rfl fun a w e s => ?_
      exact ⟨hd19, v9, e.sub (lk_of_allIn ⟨rfl, trivial⟩), s.mono fun _ s => (by replace s := Sat.front 1 rfl s; replace s := Sat.unrange s; exact s)⟩
    · refine TO.s rfl rfl rfl (StepS.extract rfl rfl) ?_
      refine TO.code ?_
      obtain ⟨_, hb170⟩ := hb17r k6 v7 hk8 hn18
      have hb17 := hb170
      refine TC.rmore (Pre := fun q5 y11 => fun a w => ∃ v9 : Value, Mid 34 B [(0, .pointer (some ⟨b0_, o0_, none⟩)), (1, I a1), (5, v9), (11, .pointer (some ⟨it4, 0, none⟩))] (OwnS 217 2 v9 (y11.map cTii) :: MFR (fun k : Int × Int => .agg #[I k.1, I k.2]) (fun x : Bool => .bool x) it4 h0_1 (a0.1) q5 :: L) a w) (Ret := fun (_ : Unit) _ _ => False) 0 hk8 hn18 hb170 ?_
      dsimp only [F69_L0] at hb17
      refine TC.k ?_
      refine TC.condT rfl ?_
      refine TC.skipk ?_
      refine TC.block ?_
      refine TC.k ?_
      refine TC.region ?_
      refine TO.s rfl rfl rfl (StepS.entryF rfl (Ent.at 1 rfl)) ?_
      refine TO.s rfl rfl rfl (StepS.extract rfl rfl) ?_
      refine TO.alloc kinfo_217_bind_zero_some_agg_I_0_I_0 rfl rfl fun b20 => ?_
      refine TO.stB (us := [I k6.1, I k6.2]) 0 [I k6.1, I k6.2] rfl rfl rfl ksizeB_217_2_true rfl rfl rfl (by simp [Value.oneCell']) rfl ?_
      refine TO.code ?_
      refine TC.k ?_
      refine TC.region_still kfollows_mixedOrders_true (by kernel_rfl) ?_
      refine TS.s rfl rfl rfl (StepS.fld rfl kfieldB_217_0_0_true) ?_
      refine TS.s rfl rfl rfl (StepS.ldB rfl (Ent.at 0 rfl) kscalB_3_true rfl) ?_
      refine TS.s rfl rfl rfl (StepS.move rfl) ?_
      refine TS.s rfl rfl rfl (StepS.cmp rfl rfl rfl) ?_
      refine TS.s rfl rfl rfl (StepS.move rfl) ?_
      refine TS.mid1 8 28 (.bool ((k6.1 == a1) && (!((a0.2 (k6.1, k6.2)).getD false)))) ?_ ?_
      · refine bcase ((k6.1 == a1)) (fun hb21 => ?_) (fun hb21 => ?_)
        · refine TS.sw rfl rfl rfl hb21 rfl rfl (StepS.move rfl) ?_
          refine TS.sw rfl rfl rfl hb21 rfl rfl (StepS.nilc rfl) ?_
          refine TS.sw rfl rfl rfl hb21 rfl rfl (StepS.fld rfl kfieldB_168_1_1_true) ?_
          refine TS.sw rfl rfl rfl hb21 rfl rfl (StepS.ldC (j := 1) rfl g0.tl.tl.tl kscalB_166_true rfl rfl) ?_
          refine TS.sw rfl rfl rfl hb21 rfl rfl (StepS.ldBA rfl (Ent.at 0 rfl) kaggB_217_2_true rfl rfl) ?_
          refine TS.sw rfl rfl rfl hb21 rfl rfl (StepS.lookF (k := (k6.1, k6.2)) kmapGB_166_217_4_true (KeyOk.tagOf ktagB_217_3_true kunderlying_3_some_int_i64 ksizeB_3_1_true kscalB_3_true kstoodInHeld_217_false) kinfo_4_bind_zero_some_bool_false rfl eh0_2.tl.tl.tl rfl (getD_vf (vf := (fun x : Bool => .bool x)) (a0.2 (k6.1, k6.2)) false)) ?_
          refine TS.sw rfl rfl rfl hb21 rfl rfl (StepS.not rfl) ?_
          refine TS.s rfl rfl rfl (StepS.pickT rfl hb21 rfl) ?_
          exact TS.up1 8 0 rfl rfl (by rw [hb21]; rfl) rfl
        · refine TS.skip rfl rfl rfl (skipF hb21) rfl rfl ?_
          refine TS.skip rfl rfl rfl (skipF hb21) rfl rfl ?_
          refine TS.skip rfl rfl rfl (skipF hb21) rfl rfl ?_
          refine TS.skip rfl rfl rfl (skipF hb21) rfl rfl ?_
          refine TS.skip rfl rfl rfl (skipF hb21) rfl rfl ?_
          refine TS.skip rfl rfl rfl (skipF hb21) rfl rfl ?_
          refine TS.skip rfl rfl rfl (skipF hb21) rfl rfl ?_
          refine TS.s rfl rfl rfl (StepS.pickF rfl hb21 rfl) ?_
          exact TS.up1 8 0 rfl rfl (by rw [hb21]; rfl) rfl
      refine TS.code ?_
      refine TC.cond rfl (fun hc22 => ?_) (fun hc22 => ?_)
      · replace hb17 := cond_t hc22 hb17
        refine TC.region ?_
        refine TO.s rfl rfl rfl (StepS.move rfl) ?_
        refine TO.s rfl rfl rfl (StepS.ldBA rfl (Ent.at 0 rfl) kaggB_217_2_true rfl rfl) ?_
        refine TO.litS (f := cTii) ([(k6.1, k6.2)] : List (Int × Int)) kelemB_169_217_2_16_true kinfo_217_bind_zero_some_agg_I_0_I_0 rfl rfl (fun _ => rfl) rfl rfl (by kernel_rfl) rfl fun v23 => ?_
        obtain ⟨y25, hk26, hb17⟩ := bind_some hb17
        refine TO.app (k := 2) (f := cTii) kelemB_169_217_2_16_true (by decide) rfl rfl rfl (OwnS.rd (Ent.at 0 rfl)) hk26 (fun x c hc => by simp [Value.oneCell'] at hc ⊢; first | (obtain rfl := hc; rfl) | (rcases hc with rfl | rfl <;> rfl)) rfl rfl fun v27 => ?_
        refine TO.s rfl rfl rfl (StepS.assign rfl) ?_
        cases hb17
        refine TO.nil fun a w e s => ?_
        exact ⟨v27, e.sub (lk_of_allIn ⟨rfl, rfl, rfl, rfl, trivial⟩), s.mono fun _ => Sat.dropN 2⟩
      · replace hb17 := cond_f hc22 hb17
        cases hb17
        refine TC.skip fun a w e s => ?_
        exact ⟨v9, e.sub (lk_of_allIn ⟨rfl, rfl, rfl, rfl, trivial⟩), s.mono fun _ => Sat.dropN 1⟩
  · exact fun a w e s => ⟨.slice none 0 0, e.sub (lk_of_allIn ⟨rfl, rfl, rfl, rfl, trivial⟩), s.mono fun _ s => (by replace s := Sat.nilS (e := 217) (sz := 2) (f := cTii) s; exact Sat.by [1, 1] 2 0 (by kernel_rfl) s)⟩
  · rintro y11 hR29 a w ⟨v9, he, hs⟩
    replace hs := hs.mono fun _ s => Sat.toP 1 rfl hR29 s
    refine TC.use ?_ he hs
    refine TC.k ?_
    refine TC.region ?_
    refine TO.s rfl rfl rfl (StepS.move rfl) ?_
    refine TO.s rfl rfl rfl (StepS.assign rfl) ?_
    refine TO.code ?_
    cases hm
    refine TC.ret fun a w e s => ?_
    refine FRet.mk1 (P := Try.prog) (fn := Try.f69) (t := 4) e rfl rfl ?_
    refine ⟨_, _, rfl, ⟨(v9), rfl, rfl⟩, ?_⟩
    refine s.mono fun _ s => ?_
    replace s := Sat.front 1 rfl s
    replace s := Sat.front 1 rfl s
    exact s

set_option maxRecDepth 100000 in
theorem C102 {B : World} {L : List HP} {a0 : ((Int × Int) → Option Bool) × ((Int × Int) → Option Bool) × (List Int) × List Int} {a1 : ((Int × Int) → Option Bool) × ((Int × Int) → Option Bool) × (List Int) × List Int} {b0_ o0_ : Nat} {h0_1 : Nat} {h0_2 : Nat} {h0_3 : Value} {h0_4 : Value} {b1_ o1_ : Nat} {h1_1 : Nat} {h1_2 : Nat} {h1_3 : Value} {h1_4 : Value} {s0 : ((Int × Int) → Option Bool) × ((Int × Int) → Option Bool) × (List Int) × List Int} (g0 : Ent L (Cel b0_ o0_ [.map (some h0_1), .map (some h0_2), h0_3, h0_4])) (g1 : Ent L (Cel b1_ o1_ [.map (some h1_1), .map (some h1_2), h1_3, h1_4])) (eh1_3 : Ent L (Rd 1 h1_3 (a1.2.2.1.map cI))) (eh1_4 : Ent L (Rd 1 h1_4 (a1.2.2.2.map cI))) (hm : F102 a0 a1 = some s0) {w : World} (st : St B (MF (fun k : Int × Int => .agg #[I k.1, I k.2]) (fun x : Bool => .bool x) h0_1 (a0.1) :: MF (fun k : Int × Int => .agg #[I k.1, I k.2]) (fun x : Bool => .bool x) h0_2 (a0.2.1) :: OwnS 3 1 h0_3 (a0.2.2.1.map cI) :: OwnS 3 1 h0_4 (a0.2.2.2.map cI) :: MF (fun k : Int × Int => .agg #[I k.1, I k.2]) (fun x : Bool => .bool x) h1_1 (a1.1) :: MF (fun k : Int × Int => .agg #[I k.1, I k.2]) (fun x : Bool => .bool x) h1_2 (a1.2.1) :: L) w) : Calls Try.prog 102 #[.pointer (some ⟨b0_, o0_, none⟩), .pointer (some ⟨b1_, o1_, none⟩)] w (fun e w' => ∃ v M, e = .returned v ∧ (v = .tuple #[] ∧ M = (MF (fun k : Int × Int => .agg #[I k.1, I k.2]) (fun x : Bool => .bool x) h0_1 (s0.1) :: MF (fun k : Int × Int => .agg #[I k.1, I k.2]) (fun x : Bool => .bool x) h0_2 (s0.2.1) :: OwnS 3 1 h0_3 (s0.2.2.1.map cI) :: OwnS 3 1 h0_4 (s0.2.2.2.map cI) :: MF (fun k : Int × Int => .agg #[I k.1, I k.2]) (fun x : Bool => .bool x) h1_1 (a1.1) :: MF (fun k : Int × Int => .agg #[I k.1, I k.2]) (fun x : Bool => .bool x) h1_2 (a1.2.1) :: L)) ∧ St B M w') := by
  refine calls_of (N := 86) (L := (MF (fun k : Int × Int => .agg #[I k.1, I k.2]) (fun x : Bool => .bool x) h0_1 (a0.1) :: MF (fun k : Int × Int => .agg #[I k.1, I k.2]) (fun x : Bool => .bool x) h0_2 (a0.2.1) :: OwnS 3 1 h0_3 (a0.2.2.1.map cI) :: OwnS 3 1 h0_4 (a0.2.2.2.map cI) :: MF (fun k : Int × Int => .agg #[I k.1, I k.2]) (fun x : Bool => .bool x) h1_1 (a1.1) :: MF (fun k : Int × Int => .agg #[I k.1, I k.2]) (fun x : Bool => .bool x) h1_2 (a1.2.1) :: L)) (args := [.pointer (some ⟨b0_, o0_, none⟩), .pointer (some ⟨b1_, o1_, none⟩)]) Try.func102 rfl rfl rfl ?_ st
  dsimp only [F102] at hm
  refine TC.k ?_
  refine TC.k ?_
  refine TC.region ?_
  refine TO.s rfl rfl rfl (StepS.move rfl) ?_
  refine TO.s rfl rfl rfl (StepS.nilc rfl) ?_
  refine TO.s rfl rfl rfl (StepS.fld rfl kfieldB_168_0_0_true) ?_
  refine TO.s rfl rfl rfl (StepS.ldC (j := 0) rfl g1.tl.tl.tl.tl.tl.tl kscalB_166_true rfl rfl) ?_
  refine TO.ghost (fun _ s => Sat.front 4 rfl s) ?_
  refine TO.range kmapGB_166_217_4_true rfl rfl fun it13 => ?_
  refine TO.code ?_
  obtain ⟨o20, hw21, hm⟩ := bind_some hm
  refine TC.rangeM hw21 (fun q14 y18 => fun a w => Mid 86 B [(0, .pointer (some ⟨b0_, o0_, none⟩)), (1, .pointer (some ⟨b1_, o1_, none⟩)), (11, .pointer (some ⟨it13, 0, none⟩))] (MFR (fun k : Int × Int => .agg #[I k.1, I k.2]) (fun x : Bool => .bool x) it13 h1_1 (a1.1) q14 :: MF (fun k : Int × Int => .agg #[I k.1, I k.2]) (fun x : Bool => .bool x) h0_1 (y18) :: MF (fun k : Int × Int => .agg #[I k.1, I k.2]) (fun x : Bool => .bool x) h0_2 (a0.2.1) :: OwnS 3 1 h0_3 (a0.2.2.1.map cI) :: OwnS 3 1 h0_4 (a0.2.2.2.map cI) :: MF (fun k : Int × Int => .agg #[I k.1, I k.2]) (fun x : Bool => .bool x) h1_2 (a1.2.1) :: L) a w) (fun y18 => fun a w => Mid 86 B [(0, .pointer (some ⟨b0_, o0_, none⟩)), (1, .pointer (some ⟨b1_, o1_, none⟩))] (MF (fun k : Int × Int => .agg #[I k.1, I k.2]) (fun x : Bool => .bool x) h1_1 (a1.1) :: MF (fun k : Int × Int => .agg #[I k.1, I k.2]) (fun x : Bool => .bool x) h0_1 (y18) :: MF (fun k : Int × Int => .agg #[I k.1, I k.2]) (fun x : Bool => .bool x) h0_2 (a0.2.1) :: OwnS 3 1 h0_3 (a0.2.2.1.map cI) :: OwnS 3 1 h0_4 (a0.2.2.2.map cI) :: MF (fun k : Int × Int => .agg #[I k.1, I k.2]) (fun x : Bool => .bool x) h1_2 (a1.2.1) :: L) a w) (fun (_ : Unit) _ _ => False) ?_ ?_ ?_ ?_
  · rintro q14 y18 hb22r a w ⟨he, hs⟩
    refine TC.use ?_ he hs
    refine TC.k ?_
    refine TC.region ?_
    refine TO.next 0 rfl rfl rfl (fun hd24 => ?_) (fun k15 v16 hk17 hn23 => ?_)
    · refine TO.s rfl rfl rfl (StepS.extract rfl rfl) ?_
      refine TO.code ?_
      refine TC.k ?_
      refine TC.condF rfl ?_
      refine TC.exit rfl fun a w e s => ?_
      exact ⟨hd24, e.sub (lk_of_allIn ⟨rfl, rfl, trivial⟩), s.mono fun _ s => (by replace s := Sat.front 0 rfl s; replace s := Sat.unrange s; exact s)⟩
    · refine TO.s rfl rfl rfl (StepS.extract rfl rfl) ?_
      refine TO.code ?_
      obtain ⟨_, hb220⟩ := hb22r k15 v16 hk17 hn23
      have hb22 := hb220
      refine TC.rmore (Pre := fun q14 y18 => fun a w => Mid 86 B [(0, .pointer (some ⟨b0_, o0_, none⟩)), (1, .pointer (some ⟨b1_, o1_, none⟩)), (11, .pointer (some ⟨it13, 0, none⟩))] (MFR (fun k : Int × Int => .agg #[I k.1, I k.2]) (fun x : Bool => .bool x) it13 h1_1 (a1.1) q14 :: MF (fun k : Int × Int => .agg #[I k.1, I k.2]) (fun x : Bool => .bool x) h0_1 (y18) :: MF (fun k : Int × Int => .agg #[I k.1, I k.2]) (fun x : Bool => .bool x) h0_2 (a0.2.1) :: OwnS 3 1 h0_3 (a0.2.2.1.map cI) :: OwnS 3 1 h0_4 (a0.2.2.2.map cI) :: MF (fun k : Int × Int => .agg #[I k.1, I k.2]) (fun x : Bool => .bool x) h1_2 (a1.2.1) :: L) a w) (Ret := fun (_ : Unit) _ _ => False) 0 hk17 hn23 hb220 ?_
      dsimp only [F102_L0] at hb22
      refine TC.k ?_
      refine TC.condT rfl ?_
      refine TC.skipk ?_
      refine TC.block ?_
      refine TC.k ?_
      refine TC.region ?_
      refine TO.s rfl rfl rfl (StepS.entryF rfl (Ent.at 0 rfl)) ?_
      refine TO.s rfl rfl rfl (StepS.extract rfl rfl) ?_
      refine TO.alloc kinfo_217_bind_zero_some_agg_I_0_I_0 rfl rfl fun b25 => ?_
      refine TO.stB (us := [I k15.1, I k15.2]) 0 [I k15.1, I k15.2] rfl rfl rfl ksizeB_217_2_true rfl rfl rfl (by simp [Value.oneCell']) rfl ?_
      refine TO.code ?_
      refine TC.region_tail 5 kfollows_mixedOrders_true (by kernel_rfl) ?_
      refine TS.s rfl rfl rfl (StepS.move rfl) ?_
      refine TS.s rfl rfl rfl (StepS.nilc rfl) ?_
      refine TS.s rfl rfl rfl (StepS.fld rfl kfieldB_168_0_0_true) ?_
      refine TS.s rfl rfl rfl (StepS.ldC (j := 0) rfl g0.tl.tl.tl.tl.tl.tl.tl kscalB_166_true rfl rfl) ?_
      refine TS.s rfl rfl rfl (StepS.ldBA rfl (Ent.at 0 rfl) kaggB_217_2_true rfl rfl) ?_
      refine TS.nil ?_
      refine TO.at ?_
      refine TO.msetF (k := (k15.1, k15.2)) (v := true) 2 kmapGB_166_217_4_true (KeyOk.tagOf ktagB_217_3_true kunderlying_3_some_int_i64 ksizeB_3_1_true kscalB_3_true kstoodInHeld_217_false) rfl rfl rfl rfl ?_
      cases hb22
      refine TO.nil fun a w e s => ?_
      exact ⟨e.sub (lk_of_allIn ⟨rfl, rfl, rfl, trivial⟩), s.mono fun _ => Sat.dropN 1⟩
  · exact fun a w e s => ⟨e.sub (lk_of_allIn ⟨rfl, rfl, rfl, trivial⟩), s⟩
  · rintro y18 rfl a w ⟨he, hs⟩
    dsimp only [Ctl.onN] at hm
    refine TC.use ?_ he hs
    refine TC.k ?_
    refine TC.k ?_
    refine TC.region ?_
    refine TO.s rfl rfl rfl (StepS.move rfl) ?_
    refine TO.s rfl rfl rfl (StepS.nilc rfl) ?_
    refine TO.s rfl rfl rfl (StepS.fld rfl kfieldB_168_1_1_true) ?_
    refine TO.s rfl rfl rfl (StepS.ldC (j := 1) rfl g1.tl.tl.tl.tl.tl.tl kscalB_166_true rfl rfl) ?_
    refine TO.ghost (fun _ s => Sat.front 5 rfl s) ?_
    refine TO.range kmapGB_166_217_4_true rfl rfl fun it26 => ?_
    refine TO.code ?_
    obtain ⟨o33, hw34, hm⟩ := bind_some hm
    refine TC.rangeM hw34 (fun q27 y31 => fun a w => Mid 86 B [(0, .pointer (some ⟨b0_, o0_, none⟩)), (1, .pointer (some ⟨b1_, o1_, none⟩)), (25, .pointer (some ⟨it26, 0, none⟩))] (MFR (fun k : Int × Int => .agg #[I k.1, I k.2]) (fun x : Bool => .bool x) it26 h1_2 (a1.2.1) q27 :: MF (fun k : Int × Int => .agg #[I k.1, I k.2]) (fun x : Bool => .bool x) h1_1 (a1.1) :: MF (fun k : Int × Int => .agg #[I k.1, I k.2]) (fun x : Bool => .bool x) h0_1 (y18) :: MF (fun k : Int × Int => .agg #[I k.1, I k.2]) (fun x : Bool => .bool x) h0_2 (y31) :: OwnS 3 1 h0_3 (a0.2.2.1.map cI) :: OwnS 3 1 h0_4 (a0.2.2.2.map cI) :: L) a w) (fun y31 => fun a w => Mid 86 B [(0, .pointer (some ⟨b0_, o0_, none⟩)), (1, .pointer (some ⟨b1_, o1_, none⟩))] (MF (fun k : Int × Int => .agg #[I k.1, I k.2]) (fun x : Bool => .bool x) h1_2 (a1.2.1) :: MF (fun k : Int × Int => .agg #[I k.1, I k.2]) (fun x : Bool => .bool x) h1_1 (a1.1) :: MF (fun k : Int × Int => .agg #[I k.1, I k.2]) (fun x : Bool => .bool x) h0_1 (y18) :: MF (fun k : Int × Int => .agg #[I k.1, I k.2]) (fun x : Bool => .bool x) h0_2 (y31) :: OwnS 3 1 h0_3 (a0.2.2.1.map cI) :: OwnS 3 1 h0_4 (a0.2.2.2.map cI) :: L) a w) (fun (_ : Unit) _ _ => False) ?_ ?_ ?_ ?_
    · rintro q27 y31 hb35r a w ⟨he, hs⟩
      refine TC.use ?_ he hs
      refine TC.k ?_
      refine TC.region ?_
      refine TO.next 0 rfl rfl rfl (fun hd37 => ?_) (fun k28 v29 hk30 hn36 => ?_)
      · refine TO.s rfl rfl rfl (StepS.extract rfl rfl) ?_
        refine TO.code ?_
        refine TC.k ?_
        refine TC.condF rfl ?_
        refine TC.exit rfl fun a w e s => ?_
        exact ⟨hd37, e.sub (lk_of_allIn ⟨rfl, rfl, trivial⟩), s.mono fun _ s => (by replace s := Sat.front 0 rfl s; replace s := Sat.unrange s; exact s)⟩
      · refine TO.s rfl rfl rfl (StepS.extract rfl rfl) ?_
        refine TO.code ?_
        obtain ⟨_, hb350⟩ := hb35r k28 v29 hk30 hn36
        have hb35 := hb350
        refine TC.rmore (Pre := fun q27 y31 => fun a w => Mid 86 B [(0, .pointer (some ⟨b0_, o0_, none⟩)), (1, .pointer (some ⟨b1_, o1_, none⟩)), (25, .pointer (some ⟨it26, 0, none⟩))] (MFR (fun k : Int × Int => .agg #[I k.1, I k.2]) (fun x : Bool => .bool x) it26 h1_2 (a1.2.1) q27 :: MF (fun k : Int × Int => .agg #[I k.1, I k.2]) (fun x : Bool => .bool x) h1_1 (a1.1) :: MF (fun k : Int × Int => .agg #[I k.1, I k.2]) (fun x : Bool => .bool x) h0_1 (y18) :: MF (fun k : Int × Int => .agg #[I k.1, I k.2]) (fun x : Bool => .bool x) h0_2 (y31) :: OwnS 3 1 h0_3 (a0.2.2.1.map cI) :: OwnS 3 1 h0_4 (a0.2.2.2.map cI) :: L) a w) (Ret := fun (_ : Unit) _ _ => False) 2 hk30 hn36 hb350 ?_
        dsimp only [F102_L1] at hb35
        refine TC.k ?_
        refine TC.condT rfl ?_
        refine TC.skipk ?_
        refine TC.block ?_
        refine TC.k ?_
        refine TC.region ?_
        refine TO.s rfl rfl rfl (StepS.entryF rfl (Ent.at 0 rfl)) ?_
        refine TO.s rfl rfl rfl (StepS.extract rfl rfl) ?_
        refine TO.alloc kinfo_217_bind_zero_some_agg_I_0_I_0 rfl rfl fun b38 => ?_
        refine TO.stB (us := [I k28.1, I k28.2]) 0 [I k28.1, I k28.2] rfl rfl rfl ksizeB_217_2_true rfl rfl rfl (by simp [Value.oneCell']) rfl ?_
        refine TO.code ?_
        refine TC.region_tail 5 kfollows_mixedOrders_true (by kernel_rfl) ?_
        refine TS.s rfl rfl rfl (StepS.move rfl) ?_
        refine TS.s rfl rfl rfl (StepS.nilc rfl) ?_
        refine TS.s rfl rfl rfl (StepS.fld rfl kfieldB_168_1_1_true) ?_
        refine TS.s rfl rfl rfl (StepS.ldC (j := 1) rfl g0.tl.tl.tl.tl.tl.tl.tl kscalB_166_true rfl rfl) ?_
        refine TS.s rfl rfl rfl (StepS.ldBA rfl (Ent.at 0 rfl) kaggB_217_2_true rfl rfl) ?_
        refine TS.nil ?_
        refine TO.at ?_
        refine TO.msetF (k := (k28.1, k28.2)) (v := true) 4 kmapGB_166_217_4_true (KeyOk.tagOf ktagB_217_3_true kunderlying_3_some_int_i64 ksizeB_3_1_true kscalB_3_true kstoodInHeld_217_false) rfl rfl rfl rfl ?_
        cases hb35
        refine TO.nil fun a w e s => ?_
        exact ⟨e.sub (lk_of_allIn ⟨rfl, rfl, rfl, trivial⟩), s.mono fun _ => Sat.dropN 1⟩
    · exact fun a w e s => ⟨e.sub (lk_of_allIn ⟨rfl, rfl, rfl, trivial⟩), s⟩
    · rintro y31 rfl a w ⟨he, hs⟩
      dsimp only [Ctl.onN] at hm
      refine TC.use ?_ he hs
      refine TC.k ?_
      refine TC.region ?_
      refine TO.s rfl rfl rfl (StepS.move rfl) ?_
      refine TO.s rfl rfl rfl (StepS.nilc rfl) ?_
      refine TO.s rfl rfl rfl (StepS.fld rfl kfieldB_168_2_2_true) ?_
      refine TO.s rfl rfl rfl (StepS.ldC (j := 2) rfl g0.tl.tl.tl.tl.tl.tl kscalB_22_true rfl rfl) ?_
      refine TO.s rfl rfl rfl (StepS.lenm rfl (OwnS.rd (Ent.at 4 rfl)) ksliceB_22_3_1_true rfl) ?_
      refine TO.s rfl rfl rfl (StepS.move rfl) ?_
      refine TO.code ?_
      obtain ⟨o47, hw48, hm⟩ := bind_some hm
      refine TC.loop hw48 (fun (y39, y40, x41) => fun a w => Mid 86 B [(0, .pointer (some ⟨b0_, o0_, none⟩)), (1, .pointer (some ⟨b1_, o1_, none⟩)), (39, I (a0.2.2.1.length : Int)), (40, I x41)] (MF (fun k : Int × Int => .agg #[I k.1, I k.2]) (fun x : Bool => .bool x) h1_2 (a1.2.1) :: MF (fun k : Int × Int => .agg #[I k.1, I k.2]) (fun x : Bool => .bool x) h1_1 (a1.1) :: MF (fun k : Int × Int => .agg #[I k.1, I k.2]) (fun x : Bool => .bool x) h0_1 (y18) :: MF (fun k : Int × Int => .agg #[I k.1, I k.2]) (fun x : Bool => .bool x) h0_2 (y31) :: OwnS 3 1 h0_3 (y39.map cI) :: OwnS 3 1 h0_4 (y40.map cI) :: L) a w) (fun (y45, y46) => fun a w => Mid 86 B [] (MF (fun k : Int × Int => .agg #[I k.1, I k.2]) (fun x : Bool => .bool x) h1_2 (a1.2.1) :: MF (fun k : Int × Int => .agg #[I k.1, I k.2]) (fun x : Bool => .bool x) h1_1 (a1.1) :: MF (fun k : Int × Int => .agg #[I k.1, I k.2]) (fun x : Bool => .bool x) h0_1 (y18) :: MF (fun k : Int × Int => .agg #[I k.1, I k.2]) (fun x : Bool => .bool x) h0_2 (y31) :: OwnS 3 1 h0_3 (y45.map cI) :: OwnS 3 1 h0_4 (y46.map cI) :: L) a w) (fun (_ : Unit) _ _ => False) ?_ ?_ ?_ ?_
      · rintro ⟨y39, y40, x41⟩ o47r hb49 a w ⟨he, hs⟩
        dsimp only [F102_L2] at hb49
        refine TC.use ?_ he hs
        refine TC.k ?_
        refine TC.region ?_
        refine TO.s rfl rfl rfl (StepS.cmp rfl rfl rfl) ?_
        refine TO.code ?_
        refine TC.k ?_
        refine TC.cond rfl (fun hc50 => ?_) (fun hc50 => ?_)
        · replace hb49 := cond_t hc50 hb49
          refine TC.skipk ?_
          refine TC.k ?_
          refine TC.block ?_
          refine TC.k ?_
          refine TC.region ?_
          refine TO.s rfl rfl rfl (StepS.move rfl) ?_
          refine TO.s rfl rfl rfl (StepS.assign rfl) ?_
          refine TO.code ?_
          obtain ⟨⟨y52, y53⟩, hj54, hb49⟩ := bind_some hb49
          first | refine TC.cutM (fun a w => Mid 86 B [(0, .pointer (some ⟨b0_, o0_, none⟩)), (1, .pointer (some ⟨b1_, o1_, none⟩)), (39, I (a0.2.2.1.length : Int)), (40, I x41)] (MF (fun k : Int × Int => .agg #[I k.1, I k.2]) (fun x : Bool => .bool x) h1_2 (a1.2.1) :: MF (fun k : Int × Int => .agg #[I k.1, I k.2]) (fun x : Bool => .bool x) h1_1 (a1.1) :: MF (fun k : Int × Int => .agg #[I k.1, I k.2]) (fun x : Bool => .bool x) h0_1 (y18) :: MF (fun k : Int × Int => .agg #[I k.1, I k.2]) (fun x : Bool => .bool x) h0_2 (y31) :: OwnS 3 1 h0_3 (y52.map cI) :: OwnS 3 1 h0_4 (y53.map cI) :: L) a w) ?_ ?_ | refine TC.cutX (fun a w => Mid 86 B [(0, .pointer (some ⟨b0_, o0_, none⟩)), (1, .pointer (some ⟨b1_, o1_, none⟩)), (39, I (a0.2.2.1.length : Int)), (40, I x41)] (MF (fun k : Int × Int => .agg #[I k.1, I k.2]) (fun x : Bool => .bool x) h1_2 (a1.2.1) :: MF (fun k : Int × Int => .agg #[I k.1, I k.2]) (fun x : Bool => .bool x) h1_1 (a1.1) :: MF (fun k : Int × Int => .agg #[I k.1, I k.2]) (fun x : Bool => .bool x) h0_1 (y18) :: MF (fun k : Int × Int => .agg #[I k.1, I k.2]) (fun x : Bool => .bool x) h0_2 (y31) :: OwnS 3 1 h0_3 (y52.map cI) :: OwnS 3 1 h0_4 (y53.map cI) :: L) a w) ?_ ?_
          · obtain ⟨xq51_15_1, hxq51_15_2, hj54⟩ := bind_some hj54
            obtain ⟨xq51_22_1, hxq51_22_2, hj54⟩ := bind_some hj54
            obtain ⟨xq51_30_1, hxq51_30_2, hj54⟩ := bind_some hj54
            obtain ⟨xq51_37_1, hxq51_37_2, hj54⟩ := bind_some hj54
            obtain ⟨xq51_40_1, hxq51_40_2, hj54⟩ := bind_some hj54
            obtain ⟨xq51_42_1, hxq51_42_2, hj54⟩ := bind_some hj54
            refine TC.region_any (MF (fun k : Int × Int => .agg #[I k.1, I k.2]) (fun x : Bool => .bool x) h1_2 (a1.2.1) :: MF (fun k : Int × Int => .agg #[I k.1, I k.2]) (fun x : Bool => .bool x) h1_1 (a1.1) :: MF (fun k : Int × Int => .agg #[I k.1, I k.2]) (fun x : Bool => .bool x) h0_1 (y18) :: MF (fun k : Int × Int => .agg #[I k.1, I k.2]) (fun x : Bool => .bool x) h0_2 (y31) :: OwnS 3 1 h0_3 (y39.map cI) :: OwnS 3 1 h0_4 (y40.map cI) :: L) 41 44 kfollows_mixedOrders_true rfl ?_
            refine TA.takeW 0 rfl rfl rfl rfl (StepS.move rfl) (by kernel_rfl) (by kernel_rfl) (by kernel_rfl) rfl (.inr (fun _ s => s)) ?_
            refine TA.takeW 1 rfl rfl rfl rfl (StepS.nilc rfl) (by kernel_rfl) (by kernel_rfl) (by kernel_rfl) rfl (.inr (fun _ s => s)) ?_
            refine TA.takeW 2 rfl rfl rfl rfl (StepS.fld rfl kfieldB_168_2_2_true) (by kernel_rfl) (by kernel_rfl) (by kernel_rfl) rfl (.inr (fun _ s => s)) ?_
            refine TA.take 3 rfl rfl rfl rfl (StepS.ldC (j := 2) rfl g0.tl.tl.tl.tl.tl.tl kscalB_22_true rfl rfl) (by kernel_rfl) (by kernel_rfl) (by kernel_rfl) (by kernel_rfl) (by kernel_rfl) (fun _ s => s) ?_
            refine TA.takeW 4 rfl rfl rfl rfl (StepS.move rfl) (by kernel_rfl) (by kernel_rfl) (by kernel_rfl) rfl (.inr (fun _ s => s)) ?_
            refine TA.takeW 5 rfl rfl rfl rfl (StepS.move rfl) (by kernel_rfl) (by kernel_rfl) (by kernel_rfl) rfl (.inr (fun _ s => s)) ?_
            refine TA.takeW 6 rfl rfl rfl rfl (StepS.nilc rfl) (by kernel_rfl) (by kernel_rfl) (by kernel_rfl) rfl (.inr (fun _ s => s)) ?_
            refine TA.takeW 7 rfl rfl rfl rfl (StepS.fld rfl kfieldB_168_3_3_true) (by kernel_rfl) (by kernel_rfl) (by kernel_rfl) rfl (.inr (fun _ s => s)) ?_
            refine TA.take 8 rfl rfl rfl rfl (StepS.ldC (j := 3) rfl g0.tl.tl.tl.tl.tl.tl kscalB_22_true rfl rfl) (by kernel_rfl) (by kernel_rfl) (by kernel_rfl) (by kernel_rfl) (by kernel_rfl) (fun _ s => s) ?_
            refine TA.takeW 9 rfl rfl rfl rfl (StepS.move rfl) (by kernel_rfl) (by kernel_rfl) (by kernel_rfl) rfl (.inr (fun _ s => s)) ?_
            refine TA.takeW 10 rfl rfl rfl rfl (StepS.move rfl) (by kernel_rfl) (by kernel_rfl) (by kernel_rfl) rfl (.inr (fun _ s => s)) ?_
            refine TA.takeW 11 rfl rfl rfl rfl (StepS.nilc rfl) (by kernel_rfl) (by kernel_rfl) (by kernel_rfl) rfl (.inr (fun _ s => s)) ?_
            refine TA.takeW 12 rfl rfl rfl rfl (StepS.fld rfl kfieldB_168_2_2_true) (by kernel_rfl) (by kernel_rfl) (by kernel_rfl) rfl (.inr (fun _ s => s)) ?_
            refine TA.take 13 rfl rfl rfl rfl (StepS.ldC (j := 2) rfl g0.tl.tl.tl.tl.tl.tl kscalB_22_true rfl rfl) (by kernel_rfl) (by kernel_rfl) (by kernel_rfl) (by kernel_rfl) (by kernel_rfl) (fun _ s => s) ?_
            refine TA.takeW 14 rfl rfl rfl rfl (StepS.move rfl) (by kernel_rfl) (by kernel_rfl) (by kernel_rfl) rfl (.inr (fun _ s => s)) ?_
            refine TA.take 15 rfl rfl rfl rfl (StepS.idx rfl rfl (OwnS.rd (Ent.at 4 rfl)) ksliceB_22_3_1_true (idx_spec hxq51_15_2).1 (idxm_lt hxq51_15_2)) (by kernel_rfl) (by kernel_rfl) (by kernel_rfl) (by kernel_rfl) (by kernel_rfl) (fun _ s => s) ?_
            refine TA.take 16 rfl rfl rfl rfl (StepS.ld0 rfl (OwnS.rd (Ent.at 4 rfl)) kscalB_3_true rfl (idxm hxq51_15_2) rfl) (by kernel_rfl) (by kernel_rfl) (by kernel_rfl) (by kernel_rfl) (by kernel_rfl) (fun _ s => s) ?_
            refine TA.takeW 17 rfl rfl rfl rfl (StepS.move rfl) (by kernel_rfl) (by kernel_rfl) (by kernel_rfl) rfl (.inr (fun _ s => s)) ?_
            refine TA.takeW 18 rfl rfl rfl rfl (StepS.nilc rfl) (by kernel_rfl) (by kernel_rfl) (by kernel_rfl) rfl (.inr (fun _ s => s)) ?_
            refine TA.takeW 19 rfl rfl rfl rfl (StepS.fld rfl kfieldB_168_2_2_true) (by kernel_rfl) (by kernel_rfl) (by kernel_rfl) rfl (.inr (fun _ s => s)) ?_
            refine TA.take 20 rfl rfl rfl rfl (StepS.ldC (j := 2) rfl g1.tl.tl.tl.tl.tl.tl kscalB_22_true rfl rfl) (by kernel_rfl) (by kernel_rfl) (by kernel_rfl) (by kernel_rfl) (by kernel_rfl) (fun _ s => s) ?_
            refine TA.takeW 21 rfl rfl rfl rfl (StepS.move rfl) (by kernel_rfl) (by kernel_rfl) (by kernel_rfl) rfl (.inr (fun _ s => s)) ?_
            refine TA.take 22 rfl rfl rfl rfl (StepS.idx rfl rfl eh1_3.tl.tl.tl.tl.tl.tl ksliceB_22_3_1_true (idx_spec hxq51_22_2).1 (idxm_lt hxq51_22_2)) (by kernel_rfl) (by kernel_rfl) (by kernel_rfl) (by kernel_rfl) (by kernel_rfl) (fun _ s => s) ?_
            refine TA.take 23 rfl rfl rfl rfl (StepS.ld0 rfl eh1_3.tl.tl.tl.tl.tl.tl kscalB_3_true rfl (idxm hxq51_22_2) rfl) (by kernel_rfl) (by kernel_rfl) (by kernel_rfl) (by kernel_rfl) (by kernel_rfl) (fun _ s => s) ?_
            refine TA.takeW 24 rfl rfl rfl rfl (StepS.max2 rfl rfl) (by kernel_rfl) (by kernel_rfl) (by kernel_rfl) rfl (.inr (fun _ s => s)) ?_
            refine TA.takeW 25 rfl rfl rfl rfl (StepS.move rfl) (by kernel_rfl) (by kernel_rfl) (by kernel_rfl) rfl (.inr (fun _ s => s)) ?_
            refine TA.takeW 26 rfl rfl rfl rfl (StepS.nilc rfl) (by kernel_rfl) (by kernel_rfl) (by kernel_rfl) rfl (.inr (fun _ s => s)) ?_
            refine TA.takeW 27 rfl rfl rfl rfl (StepS.fld rfl kfieldB_168_3_3_true) (by kernel_rfl) (by kernel_rfl) (by kernel_rfl) rfl (.inr (fun _ s => s)) ?_
            refine TA.take 28 rfl rfl rfl rfl (StepS.ldC (j := 3) rfl g0.tl.tl.tl.tl.tl.tl kscalB_22_true rfl rfl) (by kernel_rfl) (by kernel_rfl) (by kernel_rfl) (by kernel_rfl) (by kernel_rfl) (fun _ s => s) ?_
            refine TA.takeW 29 rfl rfl rfl rfl (StepS.move rfl) (by kernel_rfl) (by kernel_rfl) (by kernel_rfl) rfl (.inr (fun _ s => s)) ?_
            refine TA.takeW 32 rfl rfl rfl rfl (StepS.move rfl) (by kernel_rfl) (by kernel_rfl) (by kernel_rfl) rfl (.inr (fun _ s => s)) ?_
            refine TA.takeW 33 rfl rfl rfl rfl (StepS.nilc rfl) (by kernel_rfl) (by kernel_rfl) (by kernel_rfl) rfl (.inr (fun _ s => s)) ?_
            refine TA.takeW 34 rfl rfl rfl rfl (StepS.fld rfl kfieldB_168_3_3_true) (by kernel_rfl) (by kernel_rfl) (by kernel_rfl) rfl (.inr (fun _ s => s)) ?_
            refine TA.take 35 rfl rfl rfl rfl (StepS.ldC (j := 3) rfl g1.tl.tl.tl.tl.tl.tl kscalB_22_true rfl rfl) (by kernel_rfl) (by kernel_rfl) (by kernel_rfl) (by kernel_rfl) (by kernel_rfl) (fun _ s => s) ?_
            refine TA.takeW 36 rfl rfl rfl rfl (StepS.move rfl) (by kernel_rfl) (by kernel_rfl) (by kernel_rfl) rfl (.inr (fun _ s => s)) ?_
            refine TA.all2 (i := 30) (j := 37) (by kernel_rfl) ?_ ?_
            · refine TB.of rfl ?_
              refine TO.s rfl rfl rfl (StepS.idx rfl rfl (OwnS.rd (Ent.at 5 rfl)) ksliceB_22_3_1_true (idx_spec hxq51_30_2).1 (idxm_lt hxq51_30_2)) ?_
              refine TA.back (.inr (fun _ s => s)) ?_
              refine TA.asL (L' := (MF (fun k : Int × Int => .agg #[I k.1, I k.2]) (fun x : Bool => .bool x) h1_2 (a1.2.1) :: MF (fun k : Int × Int => .agg #[I k.1, I k.2]) (fun x : Bool => .bool x) h1_1 (a1.1) :: MF (fun k : Int × Int => .agg #[I k.1, I k.2]) (fun x : Bool => .bool x) h0_1 (y18) :: MF (fun k : Int × Int => .agg #[I k.1, I k.2]) (fun x : Bool => .bool x) h0_2 (y31) :: OwnS 3 1 h0_3 (y39.map cI) :: OwnS 3 1 h0_4 (y40.map cI) :: L)) (listed' := #[true, true, true, true, true, true, true, true, true, true, true, true, true, true, true, true, true, true, true, true, true, true, true, true, true, true, true, true, true, true, true, false, true, true, true, true, true, false, false, false, false, false, false, false]) (by kernel_rfl) (by kernel_rfl) ?_
              refine TA.take 31 rfl rfl rfl rfl (StepS.ld0 rfl (OwnS.rd (Ent.at 5 rfl)) kscalB_3_true rfl (idxm hxq51_30_2) rfl) (by kernel_rfl) (by kernel_rfl) (by kernel_rfl) (by kernel_rfl) (by kernel_rfl) (fun _ s => s) ?_
              refine TA.all1 (i := 37) (by kernel_rfl) ?_
              refine TB.of rfl ?_
              refine TO.s rfl rfl rfl (StepS.idx rfl rfl eh1_4.tl.tl.tl.tl.tl.tl ksliceB_22_3_1_true (idx_spec hxq51_37_2).1 (idxm_lt hxq51_37_2)) ?_
              refine TA.back (.inr (fun _ s => s)) ?_
              refine TA.asL (L' := (MF (fun k : Int × Int => .agg #[I k.1, I k.2]) (fun x : Bool => .bool x) h1_2 (a1.2.1) :: MF (fun k : Int × Int => .agg #[I k.1, I k.2]) (fun x : Bool => .bool x) h1_1 (a1.1) :: MF (fun k : Int × Int => .agg #[I k.1, I k.2]) (fun x : Bool => .bool x) h0_1 (y18) :: MF (fun k : Int × Int => .agg #[I k.1, I k.2]) (fun x : Bool => .bool x) h0_2 (y31) :: OwnS 3 1 h0_3 (y39.map cI) :: OwnS 3 1 h0_4 (y40.map cI) :: L)) (listed' := #[true, true, true, true, true, true, true, true, true, true, true, true, true, true, true, true, true, true, true, true, true, true, true, true, true, true, true, true, true, true, true, true, true, true, true, true, true, true, false, false, false, false, false, false]) (by kernel_rfl) (by kernel_rfl) ?_
              refine TA.take 38 rfl rfl rfl rfl (StepS.ld0 rfl eh1_4.tl.tl.tl.tl.tl.tl kscalB_3_true rfl (idxm hxq51_37_2) rfl) (by kernel_rfl) (by kernel_rfl) (by kernel_rfl) (by kernel_rfl) (by kernel_rfl) (fun _ s => s) ?_
              refine TA.takeW 39 rfl rfl rfl rfl (StepS.max2 rfl rfl) (by kernel_rfl) (by kernel_rfl) (by kernel_rfl) rfl (.inr (fun _ s => s)) ?_
              refine TA.take 40 rfl rfl rfl rfl (StepS.idx rfl rfl (OwnS.rd (Ent.at 4 rfl)) ksliceB_22_3_1_true (idx_spec hxq51_40_2).1 (idxm_lt hxq51_40_2)) (by kernel_rfl) (by kernel_rfl) (by kernel_rfl) (by kernel_rfl) (by kernel_rfl) (fun _ s => s) ?_
              refine TA.all1 (i := 41) (by kernel_rfl) ?_
              refine TB.of rfl ?_
              refine TO.stO (i := x41.toNat) (off := 0) (us := [I (mx xq51_15_1 xq51_22_1)]) 4 (mx xq51_15_1 xq51_22_1) rfl rfl rfl ksizeB_3_1_true rfl rfl rfl (idx_spec hxq51_40_2).2 rfl (by simp [Value.oneCell']) rfl ?_
              refine TA.back (.inl (by kernel_rfl)) ?_
              refine TA.asL (L' := (MF (fun k : Int × Int => .agg #[I k.1, I k.2]) (fun x : Bool => .bool x) h1_2 (a1.2.1) :: MF (fun k : Int × Int => .agg #[I k.1, I k.2]) (fun x : Bool => .bool x) h1_1 (a1.1) :: MF (fun k : Int × Int => .agg #[I k.1, I k.2]) (fun x : Bool => .bool x) h0_1 (y18) :: MF (fun k : Int × Int => .agg #[I k.1, I k.2]) (fun x : Bool => .bool x) h0_2 (y31) :: OwnS 3 1 h0_3 ((y39.set x41.toNat (mx xq51_15_1 xq51_22_1)).map cI) :: OwnS 3 1 h0_4 (y40.map cI) :: L)) (listed' := #[true, true, true, true, true, true, true, true, true, true, true, true, true, true, true, true, true, true, true, true, true, true, true, true, true, true, true, true, true, true, true, true, true, true, true, true, true, true, true, true, true, true, false, false]) (by kernel_rfl) (by kernel_rfl) ?_
              refine TA.all1 (i := 42) (by kernel_rfl) ?_
              refine TB.of rfl ?_
              refine TO.s rfl rfl rfl (StepS.idx rfl rfl (OwnS.rd (Ent.at 5 rfl)) ksliceB_22_3_1_true (idx_spec hxq51_42_2).1 (idxm_lt hxq51_42_2)) ?_
              refine TA.back (.inl (by kernel_rfl)) ?_
              refine TA.asL (L' := (MF (fun k : Int × Int => .agg #[I k.1, I k.2]) (fun x : Bool => .bool x) h1_2 (a1.2.1) :: MF (fun k : Int × Int => .agg #[I k.1, I k.2]) (fun x : Bool => .bool x) h1_1 (a1.1) :: MF (fun k : Int × Int => .agg #[I k.1, I k.2]) (fun x : Bool => .bool x) h0_1 (y18) :: MF (fun k : Int × Int => .agg #[I k.1, I k.2]) (fun x : Bool => .bool x) h0_2 (y31) :: OwnS 3 1 h0_3 ((y39.set x41.toNat (mx xq51_15_1 xq51_22_1)).map cI) :: OwnS 3 1 h0_4 (y40.map cI) :: L)) (listed' := #[true, true, true, true, true, true, true, true, true, true, true, true, true, true, true, true, true, true, true, true, true, true, true, true, true, true, true, true, true, true, true, true, true, true, true, true, true, true, true, true, true, true, true, false]) (by kernel_rfl) (by kernel_rfl) ?_
              refine TA.all1 (i := 43) (by kernel_rfl) ?_
              refine TB.of rfl ?_
              refine TO.stO (i := x41.toNat) (off := 0) (us := [I (mx xq51_30_1 xq51_37_1)]) 5 (mx xq51_30_1 xq51_37_1) rfl rfl rfl ksizeB_3_1_true rfl rfl rfl (idx_spec hxq51_42_2).2 rfl (by simp [Value.oneCell']) rfl ?_
              refine TA.back (.inl (by kernel_rfl)) ?_
              refine TA.asL (L' := (MF (fun k : Int × Int => .agg #[I k.1, I k.2]) (fun x : Bool => .bool x) h1_2 (a1.2.1) :: MF (fun k : Int × Int => .agg #[I k.1, I k.2]) (fun x : Bool => .bool x) h1_1 (a1.1) :: MF (fun k : Int × Int => .agg #[I k.1, I k.2]) (fun x : Bool => .bool x) h0_1 (y18) :: MF (fun k : Int × Int => .agg #[I k.1, I k.2]) (fun x : Bool => .bool x) h0_2 (y31) :: OwnS 3 1 h0_3 ((y39.set x41.toNat (mx xq51_15_1 xq51_22_1)).map cI) :: OwnS 3 1 h0_4 ((y40.set x41.toNat (mx xq51_30_1 xq51_37_1)).map cI) :: L)) (listed' := #[true, true, true, true, true, true, true, true, true, true, true, true, true, true, true, true, true, true, true, true, true, true, true, true, true, true, true, true, true, true, true, true, true, true, true, true, true, true, true, true, true, true, true, true]) (by kernel_rfl) (by kernel_rfl) ?_
              cases hj54
              refine TA.nil (by kernel_rfl) fun a w e s => ?_
              exact ⟨e.sub (lk_of_allIn ⟨rfl, rfl, rfl, rfl, trivial⟩), s⟩
            · refine TB.of rfl ?_
              refine TO.s rfl rfl rfl (StepS.idx rfl rfl eh1_4.tl.tl.tl.tl.tl.tl ksliceB_22_3_1_true (idx_spec hxq51_37_2).1 (idxm_lt hxq51_37_2)) ?_
              refine TA.back (.inr (fun _ s => s)) ?_
              refine TA.asL (L' := (MF (fun k : Int × Int => .agg #[I k.1, I k.2]) (fun x : Bool => .bool x) h1_2 (a1.2.1) :: MF (fun k : Int × Int => .agg #[I k.1, I k.2]) (fun x : Bool => .bool x) h1_1 (a1.1) :: MF (fun k : Int × Int => .agg #[I k.1, I k.2]) (fun x : Bool => .bool x) h0_1 (y18) :: MF (fun k : Int × Int => .agg #[I k.1, I k.2]) (fun x : Bool => .bool x) h0_2 (y31) :: OwnS 3 1 h0_3 (y39.map cI) :: OwnS 3 1 h0_4 (y40.map cI) :: L)) (listed' := #[true, true, true, true, true, true, true, true, true, true, true, true, true, true, true, true, true, true, true, true, true, true, true, true, true, true, true, true, true, true, false, false, true, true, true, true, true, true, false, false, false, false, false, false]) (by kernel_rfl) (by kernel_rfl) ?_
              refine TA.take 38 rfl rfl rfl rfl (StepS.ld0 rfl eh1_4.tl.tl.tl.tl.tl.tl kscalB_3_true rfl (idxm hxq51_37_2) rfl) (by kernel_rfl) (by kernel_rfl) (by kernel_rfl) (by kernel_rfl) (by kernel_rfl) (fun _ s => s) ?_
              refine TA.all1 (i := 30) (by kernel_rfl) ?_
              refine TB.of rfl ?_
              refine TO.s rfl rfl rfl (StepS.idx rfl rfl (OwnS.rd (Ent.at 5 rfl)) ksliceB_22_3_1_true (idx_spec hxq51_30_2).1 (idxm_lt hxq51_30_2)) ?_
              refine TA.back (.inr (fun _ s => s)) ?_
              refine TA.asL (L' := (MF (fun k : Int × Int => .agg #[I k.1, I k.2]) (fun x : Bool => .bool x) h1_2 (a1.2.1) :: MF (fun k : Int × Int => .agg #[I k.1, I k.2]) (fun x : Bool => .bool x) h1_1 (a1.1) :: MF (fun k : Int × Int => .agg #[I k.1, I k.2]) (fun x : Bool => .bool x) h0_1 (y18) :: MF (fun k : Int × Int => .agg #[I k.1, I k.2]) (fun x : Bool => .bool x) h0_2 (y31) :: OwnS 3 1 h0_3 (y39.map cI) :: OwnS 3 1 h0_4 (y40.map cI) :: L)) (listed' := #[true, true, true, true, true, true, true, true, true, true, true, true, true, true, true, true, true, true, true, true, true, true, true, true, true, true, true, true, true, true, true, false, true, true, true, true, true, true, true, false, false, false, false, false]) (by kernel_rfl) (by kernel_rfl) ?_
              refine TA.take 31 rfl rfl rfl rfl (StepS.ld0 rfl (OwnS.rd (Ent.at 5 rfl)) kscalB_3_true rfl (idxm hxq51_30_2) rfl) (by kernel_rfl) (by kernel_rfl) (by kernel_rfl) (by kernel_rfl) (by kernel_rfl) (fun _ s => s) ?_
              refine TA.takeW 39 rfl rfl rfl rfl (StepS.max2 rfl rfl) (by kernel_rfl) (by kernel_rfl) (by kernel_rfl) rfl (.inr (fun _ s => s)) ?_
              refine TA.take 40 rfl rfl rfl rfl (StepS.idx rfl rfl (OwnS.rd (Ent.at 4 rfl)) ksliceB_22_3_1_true (idx_spec hxq51_40_2).1 (idxm_lt hxq51_40_2)) (by kernel_rfl) (by kernel_rfl) (by kernel_rfl) (by kernel_rfl) (by kernel_rfl) (fun _ s => s) ?_
              refine TA.all1 (i := 41) (by kernel_rfl) ?_
              refine TB.of rfl ?_
              refine TO.stO (i := x41.toNat) (off := 0) (us := [I (mx xq51_15_1 xq51_22_1)]) 4 (mx xq51_15_1 xq51_22_1) rfl rfl rfl ksizeB_3_1_true rfl rfl rfl (idx_spec hxq51_40_2).2 rfl (by simp [Value.oneCell']) rfl ?_
              refine TA.back (.inl (by kernel_rfl)) ?_
              refine TA.asL (L' := (MF (fun k : Int × Int => .agg #[I k.1, I k.2]) (fun x : Bool => .bool x) h1_2 (a1.2.1) :: MF (fun k : Int × Int => .agg #[I k.1, I k.2]) (fun x : Bool => .bool x) h1_1 (a1.1) :: MF (fun k : Int × Int => .agg #[I k.1, I k.2]) (fun x : Bool => .bool x) h0_1 (y18) :: MF (fun k : Int × Int => .agg #[I k.1, I k.2]) (fun x : Bool => .bool x) h0_2 (y31) :: OwnS 3 1 h0_3 ((y39.set x41.toNat (mx xq51_15_1 xq51_22_1)).map cI) :: OwnS 3 1 h0_4 (y40.map cI) :: L)) (listed' := #[true, true, true, true, true, true, true, true, true, true, true, true, true, true, true, true, true, true, true, true, true, true, true, true, true, true, true, true, true, true, true, true, true, true, true, true, true, true, true, true, true, true, false, false]) (by kernel_rfl) (by kernel_rfl) ?_
              refine TA.all1 (i := 42) (by kernel_rfl) ?_
              refine TB.of rfl ?_
              refine TO.s rfl rfl rfl (StepS.idx rfl rfl (OwnS.rd (Ent.at 5 rfl)) ksliceB_22_3_1_true (idx_spec hxq51_42_2).1 (idxm_lt hxq51_42_2)) ?_
              refine TA.back (.inl (by kernel_rfl)) ?_
              refine TA.asL (L' := (MF (fun k : Int × Int => .agg #[I k.1, I k.2]) (fun x : Bool => .bool x) h1_2 (a1.2.1) :: MF (fun k : Int × Int => .agg #[I k.1, I k.2]) (fun x : Bool => .bool x) h1_1 (a1.1) :: MF (fun k : Int × Int => .agg #[I k.1, I k.2]) (fun x : Bool => .bool x) h0_1 (y18) :: MF (fun k : Int × Int => .agg #[I k.1, I k.2]) (fun x : Bool => .bool x) h0_2 (y31) :: OwnS 3 1 h0_3 ((y39.set x41.toNat (mx xq51_15_1 xq51_22_1)).map cI) :: OwnS 3 1 h0_4 (y40.map cI) :: L)) (listed' := #[true, true, true, true, true, true, true, true, true, true, true, true, true, true, true, true, true, true, true, true, true, true, true, true, true, true, true, true, true, true, true, true, true, true, true, true, true, true, true, true, true, true, true, false]) (by kernel_rfl) (by kernel_rfl) ?_
              refine TA.all1 (i := 43) (by kernel_rfl) ?_
              refine TB.of rfl ?_
              refine TO.stO (i := x41.toNat) (off := 0) (us := [I (mx xq51_30_1 xq51_37_1)]) 5 (mx xq51_30_1 xq51_37_1) rfl rfl rfl ksizeB_3_1_true rfl rfl rfl (idx_spec hxq51_42_2).2 rfl (by simp [Value.oneCell']) rfl ?_
              refine TA.back (.inl (by kernel_rfl)) ?_
              refine TA.asL (L' := (MF (fun k : Int × Int => .agg #[I k.1, I k.2]) (fun x : Bool => .bool x) h1_2 (a1.2.1) :: MF (fun k : Int × Int => .agg #[I k.1, I k.2]) (fun x : Bool => .bool x) h1_1 (a1.1) :: MF (fun k : Int × Int => .agg #[I k.1, I k.2]) (fun x : Bool => .bool x) h0_1 (y18) :: MF (fun k : Int × Int => .agg #[I k.1, I k.2]) (fun x : Bool => .bool x) h0_2 (y31) :: OwnS 3 1 h0_3 ((y39.set x41.toNat (mx xq51_15_1 xq51_22_1)).map cI) :: OwnS 3 1 h0_4 ((y40.set x41.toNat (mx xq51_30_1 xq51_37_1)).map cI) :: L)) (listed' := #[true, true, true, true, true, true, true, true, true, true, true, true, true, true, true, true, true, true, true, true, true, true, true, true, true, true, true, true, true, true, true, true, true, true, true, true, true, true, true, true, true, true, true, true]) (by kernel_rfl) (by kernel_rfl) ?_
              cases hj54
              refine TA.nil (by kernel_rfl) fun a w e s => ?_
              exact ⟨e.sub (lk_of_allIn ⟨rfl, rfl, rfl, rfl, trivial⟩), s⟩
          · intro a w ⟨he, hs⟩
            refine TC.use ?_ he hs
            refine TC.region ?_
            refine TO.s rfl rfl rfl (StepS.ari rfl rfl rfl) ?_
            refine TO.s rfl rfl rfl (StepS.move rfl) ?_
            cases hb49
            refine TO.nil fun a w e s => ?_
            exact ⟨e.sub (lk_of_allIn ⟨rfl, rfl, rfl, rfl, trivial⟩), s⟩
        · replace hb49 := cond_f hc50 hb49
          cases hb49
          refine TC.exit rfl fun a w e s => ?_
          exact ⟨e.sub (lk_of_allIn trivial), s⟩
      · exact fun a w e s => ⟨e.sub (lk_of_allIn ⟨rfl, rfl, rfl, rfl, trivial⟩), s⟩
      · rintro ⟨y45, y46⟩ rfl a w ⟨he, hs⟩
        dsimp only [Ctl.on] at hm
        cases hm
        have e := he; have s := hs
        refine FRet.mk0 (P := Try.prog) (fn := Try.f102) e rfl ?_
        refine ⟨_, _, rfl, ⟨rfl, rfl⟩, ?_⟩
        refine s.mono fun _ s => ?_
        exact Sat.by [0, 1, 5, 5, 5, 5] 6 0 (by kernel_rfl) s
      · rintro r rfl
        exact fun a w h => h.elim
    · rintro r rfl
      exact fun a w h => h.elim
  · rintro r rfl
    exact fun a w h => h.elim

set_option maxRecDepth 100000 in
theorem C102s {B : World} {L : List HP} {a0 : ((Int × Int) → Option Bool) × ((Int × Int) → Option Bool) × (List Int) × List Int} {b0_ o0_ : Nat} {h0_1 : Nat} {h0_2 : Nat} {h0_3 : Value} {h0_4 : Value} {s0 : ((Int × Int) → Option Bool) × ((Int × Int) → Option Bool) × (List Int) × List Int} (g0 : Ent L (Cel b0_ o0_ [.map (some h0_1), .map (some h0_2), h0_3, h0_4])) (hm : F102s a0 = some s0) {w : World} (st : St B (MF (fun k : Int × Int => .agg #[I k.1, I k.2]) (fun x : Bool => .bool x) h0_1 (a0.1) :: MF (fun k : Int × Int => .agg #[I k.1, I k.2]) (fun x : Bool => .bool x) h0_2 (a0.2.1) :: OwnS 3 1 h0_3 (a0.2.2.1.map cI) :: OwnS 3 1 h0_4 (a0.2.2.2.map cI) :: L) w) : Calls Try.prog 102 #[.pointer (some ⟨b0_, o0_, none⟩), .pointer (some ⟨b0_, o0_, none⟩)] w (fun e w' => ∃ v M, e = .returned v ∧ (v = .tuple #[] ∧ M = (MF (fun k : Int × Int => .agg #[I k.1, I k.2]) (fun x : Bool => .bool x) h0_1 (s0.1) :: MF (fun k : Int × Int => .agg #[I k.1, I k.2]) (fun x : Bool => .bool x) h0_2 (s0.2.1) :: OwnS 3 1 h0_3 (s0.2.2.1.map cI) :: OwnS 3 1 h0_4 (s0.2.2.2.map cI) :: L)) ∧ St B M w') := by
  refine calls_of (N := 86) (L := (MF (fun k : Int × Int => .agg #[I k.1, I k.2]) (fun x : Bool => .bool x) h0_1 (a0.1) :: MF (fun k : Int × Int => .agg #[I k.1, I k.2]) (fun x : Bool => .bool x) h0_2 (a0.2.1) :: OwnS 3 1 h0_3 (a0.2.2.1.map cI) :: OwnS 3 1 h0_4 (a0.2.2.2.map cI) :: L)) (args := [.pointer (some ⟨b0_, o0_, none⟩), .pointer (some ⟨b0_, o0_, none⟩)]) Try.func102 rfl rfl rfl ?_ st
  dsimp only [F102s] at hm
  refine TC.k ?_
  refine TC.k ?_
  refine TC.region ?_
  refine TO.s rfl rfl rfl (StepS.move rfl) ?_
  refine TO.s rfl rfl rfl (StepS.nilc rfl) ?_
  refine TO.s rfl rfl rfl (StepS.fld rfl kfieldB_168_0_0_true) ?_
  refine TO.s rfl rfl rfl (StepS.ldC (j := 0) rfl g0.tl.tl.tl.tl kscalB_166_true rfl rfl) ?_
  refine TO.range kmapGB_166_217_4_true rfl rfl fun it9 => ?_
  refine TO.code ?_
  obtain ⟨o14, hw15, hm⟩ := bind_some hm
  refine TC.rangeM hw15 (fun q10 _ => fun a w => Mid 86 B [(0, .pointer (some ⟨b0_, o0_, none⟩)), (1, .pointer (some ⟨b0_, o0_, none⟩)), (11, .pointer (some ⟨it9, 0, none⟩))] (MFR (fun k : Int × Int => .agg #[I k.1, I k.2]) (fun x : Bool => .bool x) it9 h0_1 (a0.1) q10 :: MF (fun k : Int × Int => .agg #[I k.1, I k.2]) (fun x : Bool => .bool x) h0_2 (a0.2.1) :: OwnS 3 1 h0_3 (a0.2.2.1.map cI) :: OwnS 3 1 h0_4 (a0.2.2.2.map cI) :: L) a w) (fun _ => fun a w => Mid 86 B [(0, .pointer (some ⟨b0_, o0_, none⟩)), (1, .pointer (some ⟨b0_, o0_, none⟩))] (MF (fun k : Int × Int => .agg #[I k.1, I k.2]) (fun x : Bool => .bool x) h0_1 (a0.1) :: MF (fun k : Int × Int => .agg #[I k.1, I k.2]) (fun x : Bool => .bool x) h0_2 (a0.2.1) :: OwnS 3 1 h0_3 (a0.2.2.1.map cI) :: OwnS 3 1 h0_4 (a0.2.2.2.map cI) :: L) a w) (fun (_ : Unit) _ _ => False) ?_ ?_ ?_ ?_
  · rintro q10 _ hb16r a w ⟨he, hs⟩
    refine TC.use ?_ he hs
    refine TC.k ?_
    refine TC.region ?_
    refine TO.next 0 rfl rfl rfl (fun hd18 => ?_) (fun k11 v12 hk13 hn17 => ?_)
    · refine TO.s rfl rfl rfl (StepS.extract rfl rfl) ?_
      refine TO.code ?_
      refine TC.k ?_
      refine TC.condF rfl ?_
      refine TC.exit rfl fun a w e s => ?_
      exact ⟨hd18, e.sub (lk_of_allIn ⟨rfl, rfl, trivial⟩), s.mono fun _ s => (by replace s := Sat.front 0 rfl s; replace s := Sat.unrange s; exact s)⟩
    · refine TO.s rfl rfl rfl (StepS.extract rfl rfl) ?_
      refine TO.code ?_
      obtain ⟨_, hb160⟩ := hb16r k11 v12 hk13 hn17
      have hb16 := hb160
      refine TC.rmore (Pre := fun q10 _ => fun a w => Mid 86 B [(0, .pointer (some ⟨b0_, o0_, none⟩)), (1, .pointer (some ⟨b0_, o0_, none⟩)), (11, .pointer (some ⟨it9, 0, none⟩))] (MFR (fun k : Int × Int => .agg #[I k.1, I k.2]) (fun x : Bool => .bool x) it9 h0_1 (a0.1) q10 :: MF (fun k : Int × Int => .agg #[I k.1, I k.2]) (fun x : Bool => .bool x) h0_2 (a0.2.1) :: OwnS 3 1 h0_3 (a0.2.2.1.map cI) :: OwnS 3 1 h0_4 (a0.2.2.2.map cI) :: L) a w) (Ret := fun (_ : Unit) _ _ => False) 0 hk13 hn17 hb160 ?_
      dsimp only [F102s_L0] at hb16
      refine TC.k ?_
      refine TC.condT rfl ?_
      refine TC.skipk ?_
      refine TC.block ?_
      refine TC.k ?_
      refine TC.region ?_
      refine TO.s rfl rfl rfl (StepS.entryF rfl (Ent.at 0 rfl)) ?_
      refine TO.s rfl rfl rfl (StepS.extract rfl rfl) ?_
      refine TO.alloc kinfo_217_bind_zero_some_agg_I_0_I_0 rfl rfl fun b19 => ?_
      refine TO.stB (us := [I k11.1, I k11.2]) 0 [I k11.1, I k11.2] rfl rfl rfl ksizeB_217_2_true rfl rfl rfl (by simp [Value.oneCell']) rfl ?_
      refine TO.code ?_
      refine TC.region_tail 5 kfollows_mixedOrders_true (by kernel_rfl) ?_
      refine TS.s rfl rfl rfl (StepS.move rfl) ?_
      refine TS.s rfl rfl rfl (StepS.nilc rfl) ?_
      refine TS.s rfl rfl rfl (StepS.fld rfl kfieldB_168_0_0_true) ?_
      refine TS.s rfl rfl rfl (StepS.ldC (j := 0) rfl g0.tl.tl.tl.tl.tl kscalB_166_true rfl rfl) ?_
      refine TS.s rfl rfl rfl (StepS.ldBA rfl (Ent.at 0 rfl) kaggB_217_2_true rfl rfl) ?_
      refine TS.nil ?_
      refine TO.at ?_
      obtain ⟨_, hs20, hb16⟩ := bind_some hb16
      refine TO.msameR (k := (k11.1, k11.2)) (v := true) 1 kmapGB_166_217_4_true (KeyOk.tagOf ktagB_217_3_true kunderlying_3_some_int_i64 ksizeB_3_1_true kscalB_3_true kstoodInHeld_217_false) rfl rfl rfl rfl (msame_spec hs20) ?_
      cases hb16
      refine TO.nil fun a w e s => ?_
      exact ⟨e.sub (lk_of_allIn ⟨rfl, rfl, rfl, trivial⟩), s.mono fun _ => Sat.dropN 1⟩
  · exact fun a w e s => ⟨e.sub (lk_of_allIn ⟨rfl, rfl, rfl, trivial⟩), s⟩
  · rintro _ rfl a w ⟨he, hs⟩
    dsimp only [Ctl.onN] at hm
    refine TC.use ?_ he hs
    refine TC.k ?_
    refine TC.k ?_
    refine TC.region ?_
    refine TO.s rfl rfl rfl (StepS.move rfl) ?_
    refine TO.s rfl rfl rfl (StepS.nilc rfl) ?_
    refine TO.s rfl rfl rfl (StepS.fld rfl kfieldB_168_1_1_true) ?_
    refine TO.s rfl rfl rfl (StepS.ldC (j := 1) rfl g0.tl.tl.tl.tl kscalB_166_true rfl rfl) ?_
    refine TO.ghost (fun _ s => Sat.front 1 rfl s) ?_
    refine TO.range kmapGB_166_217_4_true rfl rfl fun it21 => ?_
    refine TO.code ?_
    obtain ⟨o26, hw27, hm⟩ := bind_some hm
    refine TC.rangeM hw27 (fun q22 _ => fun a w => Mid 86 B [(0, .pointer (some ⟨b0_, o0_, none⟩)), (1, .pointer (some ⟨b0_, o0_, none⟩)), (25, .pointer (some ⟨it21, 0, none⟩))] (MFR (fun k : Int × Int => .agg #[I k.1, I k.2]) (fun x : Bool => .bool x) it21 h0_2 (a0.2.1) q22 :: MF (fun k : Int × Int => .agg #[I k.1, I k.2]) (fun x : Bool => .bool x) h0_1 (a0.1) :: OwnS 3 1 h0_3 (a0.2.2.1.map cI) :: OwnS 3 1 h0_4 (a0.2.2.2.map cI) :: L) a w) (fun _ => fun a w => Mid 86 B [(0, .pointer (some ⟨b0_, o0_, none⟩)), (1, .pointer (some ⟨b0_, o0_, none⟩))] (MF (fun k : Int × Int => .agg #[I k.1, I k.2]) (fun x : Bool => .bool x) h0_2 (a0.2.1) :: MF (fun k : Int × Int => .agg #[I k.1, I k.2]) (fun x : Bool => .bool x) h0_1 (a0.1) :: OwnS 3 1 h0_3 (a0.2.2.1.map cI) :: OwnS 3 1 h0_4 (a0.2.2.2.map cI) :: L) a w) (fun (_ : Unit) _ _ => False) ?_ ?_ ?_ ?_
    · rintro q22 _ hb28r a w ⟨he, hs⟩
      refine TC.use ?_ he hs
      refine TC.k ?_
      refine TC.region ?_
      refine TO.next 0 rfl rfl rfl (fun hd30 => ?_) (fun k23 v24 hk25 hn29 => ?_)
      · refine TO.s rfl rfl rfl (StepS.extract rfl rfl) ?_
        refine TO.code ?_
        refine TC.k ?_
        refine TC.condF rfl ?_
        refine TC.exit rfl fun a w e s => ?_
        exact ⟨hd30, e.sub (lk_of_allIn ⟨rfl, rfl, trivial⟩), s.mono fun _ s => (by replace s := Sat.front 0 rfl s; replace s := Sat.unrange s; exact s)⟩
      · refine TO.s rfl rfl rfl (StepS.extract rfl rfl) ?_
        refine TO.code ?_
        obtain ⟨_, hb280⟩ := hb28r k23 v24 hk25 hn29
        have hb28 := hb280
        refine TC.rmore (Pre := fun q22 _ => fun a w => Mid 86 B [(0, .pointer (some ⟨b0_, o0_, none⟩)), (1, .pointer (some ⟨b0_, o0_, none⟩)), (25, .pointer (some ⟨it21, 0, none⟩))] (MFR (fun k : Int × Int => .agg #[I k.1, I k.2]) (fun x : Bool => .bool x) it21 h0_2 (a0.2.1) q22 :: MF (fun k : Int × Int => .agg #[I k.1, I k.2]) (fun x : Bool => .bool x) h0_1 (a0.1) :: OwnS 3 1 h0_3 (a0.2.2.1.map cI) :: OwnS 3 1 h0_4 (a0.2.2.2.map cI) :: L) a w) (Ret := fun (_ : Unit) _ _ => False) 2 hk25 hn29 hb280 ?_
        dsimp only [F102s_L1] at hb28
        refine TC.k ?_
        refine TC.condT rfl ?_
        refine TC.skipk ?_
        refine TC.block ?_
        refine TC.k ?_
        refine TC.region ?_
        refine TO.s rfl rfl rfl (StepS.entryF rfl (Ent.at 0 rfl)) ?_
        refine TO.s rfl rfl rfl (StepS.extract rfl rfl) ?_
        refine TO.alloc kinfo_217_bind_zero_some_agg_I_0_I_0 rfl rfl fun b31 => ?_
        refine TO.stB (us := [I k23.1, I k23.2]) 0 [I k23.1, I k23.2] rfl rfl rfl ksizeB_217_2_true rfl rfl rfl (by simp [Value.oneCell']) rfl ?_
        refine TO.code ?_
        refine TC.region_tail 5 kfollows_mixedOrders_true (by kernel_rfl) ?_
        refine TS.s rfl rfl rfl (StepS.move rfl) ?_
        refine TS.s rfl rfl rfl (StepS.nilc rfl) ?_
        refine TS.s rfl rfl rfl (StepS.fld rfl kfieldB_168_1_1_true) ?_
        refine TS.s rfl rfl rfl (StepS.ldC (j := 1) rfl g0.tl.tl.tl.tl.tl kscalB_166_true rfl rfl) ?_
        refine TS.s rfl rfl rfl (StepS.ldBA rfl (Ent.at 0 rfl) kaggB_217_2_true rfl rfl) ?_
        refine TS.nil ?_
        refine TO.at ?_
        obtain ⟨_, hs32, hb28⟩ := bind_some hb28
        refine TO.msameR (k := (k23.1, k23.2)) (v := true) 1 kmapGB_166_217_4_true (KeyOk.tagOf ktagB_217_3_true kunderlying_3_some_int_i64 ksizeB_3_1_true kscalB_3_true kstoodInHeld_217_false) rfl rfl rfl rfl (msame_spec hs32) ?_
        cases hb28
        refine TO.nil fun a w e s => ?_
        exact ⟨e.sub (lk_of_allIn ⟨rfl, rfl, rfl, trivial⟩), s.mono fun _ => Sat.dropN 1⟩
    · exact fun a w e s => ⟨e.sub (lk_of_allIn ⟨rfl, rfl, rfl, trivial⟩), s⟩
    · rintro _ rfl a w ⟨he, hs⟩
      dsimp only [Ctl.onN] at hm
      refine TC.use ?_ he hs
      refine TC.k ?_
      refine TC.region ?_
      refine TO.s rfl rfl rfl (StepS.move rfl) ?_
      refine TO.s rfl rfl rfl (StepS.nilc rfl) ?_
      refine TO.s rfl rfl rfl (StepS.fld rfl kfieldB_168_2_2_true) ?_
      refine TO.s rfl rfl rfl (StepS.ldC (j := 2) rfl g0.tl.tl.tl.tl kscalB_22_true rfl rfl) ?_
      refine TO.s rfl rfl rfl (StepS.lenm rfl (OwnS.rd (Ent.at 2 rfl)) ksliceB_22_3_1_true rfl) ?_
      refine TO.s rfl rfl rfl (StepS.move rfl) ?_
      refine TO.code ?_
      obtain ⟨o41, hw42, hm⟩ := bind_some hm
      refine TC.loop hw42 (fun (y33, y34, x35) => fun a w => Mid 86 B [(0, .pointer (some ⟨b0_, o0_, none⟩)), (1, .pointer (some ⟨b0_, o0_, none⟩)), (39, I (a0.2.2.1.length : Int)), (40, I x35)] (MF (fun k : Int × Int => .agg #[I k.1, I k.2]) (fun x : Bool => .bool x) h0_2 (a0.2.1) :: MF (fun k : Int × Int => .agg #[I k.1, I k.2]) (fun x : Bool => .bool x) h0_1 (a0.1) :: OwnS 3 1 h0_3 (y33.map cI) :: OwnS 3 1 h0_4 (y34.map cI) :: L) a w) (fun (y39, y40) => fun a w => Mid 86 B [] (MF (fun k : Int × Int => .agg #[I k.1, I k.2]) (fun x : Bool => .bool x) h0_2 (a0.2.1) :: MF (fun k : Int × Int => .agg #[I k.1, I k.2]) (fun x : Bool => .bool x) h0_1 (a0.1) :: OwnS 3 1 h0_3 (y39.map cI) :: OwnS 3 1 h0_4 (y40.map cI) :: L) a w) (fun (_ : Unit) _ _ => False) ?_ ?_ ?_ ?_
      · rintro ⟨y33, y34, x35⟩ o41r hb43 a w ⟨he, hs⟩
        dsimp only [F102s_L2] at hb43
        refine TC.use ?_ he hs
        refine TC.k ?_
        refine TC.region ?_
        refine TO.s rfl rfl rfl (StepS.cmp rfl rfl rfl) ?_
        refine TO.code ?_
        refine TC.k ?_
        refine TC.cond rfl (fun hc44 => ?_) (fun hc44 => ?_)
        · replace hb43 := cond_t hc44 hb43
          refine TC.skipk ?_
          refine TC.k ?_
          refine TC.block ?_
          refine TC.k ?_
          refine TC.region ?_
          refine TO.s rfl rfl rfl (StepS.move rfl) ?_
          refine TO.s rfl rfl rfl (StepS.assign rfl) ?_
          refine TO.code ?_
          obtain ⟨⟨y46, y47⟩, hj48, hb43⟩ := bind_some hb43
          first | refine TC.cutM (fun a w => Mid 86 B [(0, .pointer (some ⟨b0_, o0_, none⟩)), (1, .pointer (some ⟨b0_, o0_, none⟩)), (39, I (a0.2.2.1.length : Int)), (40, I x35)] (MF (fun k : Int × Int => .agg #[I k.1, I k.2]) (fun x : Bool => .bool x) h0_2 (a0.2.1) :: MF (fun k : Int × Int => .agg #[I k.1, I k.2]) (fun x : Bool => .bool x) h0_1 (a0.1) :: OwnS 3 1 h0_3 (y46.map cI) :: OwnS 3 1 h0_4 (y47.map cI) :: L) a w) ?_ ?_ | refine TC.cutX (fun a w => Mid 86 B [(0, .pointer (some ⟨b0_, o0_, none⟩)), (1, .pointer (some ⟨b0_, o0_, none⟩)), (39, I (a0.2.2.1.length : Int)), (40, I x35)] (MF (fun k : Int × Int => .agg #[I k.1, I k.2]) (fun x : Bool => .bool x) h0_2 (a0.2.1) :: MF (fun k : Int × Int => .agg #[I k.1, I k.2]) (fun x : Bool => .bool x) h0_1 (a0.1) :: OwnS 3 1 h0_3 (y46.map cI) :: OwnS 3 1 h0_4 (y47.map cI) :: L) a w) ?_ ?_
          · obtain ⟨xq45_15_1, hxq45_15_2, hj48⟩ := bind_some hj48
            obtain ⟨xq45_22_1, hxq45_22_2, hj48⟩ := bind_some hj48
            obtain ⟨xq45_30_1, hxq45_30_2, hj48⟩ := bind_some hj48
            obtain ⟨xq45_37_1, hxq45_37_2, hj48⟩ := bind_some hj48
            obtain ⟨xq45_40_1, hxq45_40_2, hj48⟩ := bind_some hj48
            obtain ⟨xq45_42_1, hxq45_42_2, hj48⟩ := bind_some hj48
            refine TC.region_any (MF (fun k : Int × Int => .agg #[I k.1, I k.2]) (fun x : Bool => .bool x) h0_2 (a0.2.1) :: MF (fun k : Int × Int => .agg #[I k.1, I k.2]) (fun x : Bool => .bool x) h0_1 (a0.1) :: OwnS 3 1 h0_3 (y33.map cI) :: OwnS 3 1 h0_4 (y34.map cI) :: L) 41 44 kfollows_mixedOrders_true rfl ?_
            refine TA.takeW 0 rfl rfl rfl rfl (StepS.move rfl) (by kernel_rfl) (by kernel_rfl) (by kernel_rfl) rfl (.inr (fun _ s => s)) ?_
            refine TA.takeW 1 rfl rfl rfl rfl (StepS.nilc rfl) (by kernel_rfl) (by kernel_rfl) (by kernel_rfl) rfl (.inr (fun _ s => s)) ?_
            refine TA.takeW 2 rfl rfl rfl rfl (StepS.fld rfl kfieldB_168_2_2_true) (by kernel_rfl) (by kernel_rfl) (by kernel_rfl) rfl (.inr (fun _ s => s)) ?_
            refine TA.take 3 rfl rfl rfl rfl (StepS.ldC (j := 2) rfl g0.tl.tl.tl.tl kscalB_22_true rfl rfl) (by kernel_rfl) (by kernel_rfl) (by kernel_rfl) (by kernel_rfl) (by kernel_rfl) (fun _ s => s) ?_
            refine TA.takeW 4 rfl rfl rfl rfl (StepS.move rfl) (by kernel_rfl) (by kernel_rfl) (by kernel_rfl) rfl (.inr (fun _ s => s)) ?_
            refine TA.takeW 5 rfl rfl rfl rfl (StepS.move rfl) (by kernel_rfl) (by kernel_rfl) (by kernel_rfl) rfl (.inr (fun _ s => s)) ?_
            refine TA.takeW 6 rfl rfl rfl rfl (StepS.nilc rfl) (by kernel_rfl) (by kernel_rfl) (by kernel_rfl) rfl (.inr (fun _ s => s)) ?_
            refine TA.takeW 7 rfl rfl rfl rfl (StepS.fld rfl kfieldB_168_3_3_true) (by kernel_rfl) (by kernel_rfl) (by kernel_rfl) rfl (.inr (fun _ s => s)) ?_
            refine TA.take 8 rfl rfl rfl rfl (StepS.ldC (j := 3) rfl g0.tl.tl.tl.tl kscalB_22_true rfl rfl) (by kernel_rfl) (by kernel_rfl) (by kernel_rfl) (by kernel_rfl) (by kernel_rfl) (fun _ s => s) ?_
            refine TA.takeW 9 rfl rfl rfl rfl (StepS.move rfl) (by kernel_rfl) (by kernel_rfl) (by kernel_rfl) rfl (.inr (fun _ s => s)) ?_
            refine TA.takeW 10 rfl rfl rfl rfl (StepS.move rfl) (by kernel_rfl) (by kernel_rfl) (by kernel_rfl) rfl (.inr (fun _ s => s)) ?_
            refine TA.takeW 11 rfl rfl rfl rfl (StepS.nilc rfl) (by kernel_rfl) (by kernel_rfl) (by kernel_rfl) rfl (.inr (fun _ s => s)) ?_
            refine TA.takeW 12 rfl rfl rfl rfl (StepS.fld rfl kfieldB_168_2_2_true) (by kernel_rfl) (by kernel_rfl) (by kernel_rfl) rfl (.inr (fun _ s => s)) ?_
            refine TA.take 13 rfl rfl rfl rfl (StepS.ldC (j := 2) rfl g0.tl.tl.tl.tl kscalB_22_true rfl rfl) (by kernel_rfl) (by kernel_rfl) (by kernel_rfl) (by kernel_rfl) (by kernel_rfl) (fun _ s => s) ?_
            refine TA.takeW 14 rfl rfl rfl rfl (StepS.move rfl) (by kernel_rfl) (by kernel_rfl) (by kernel_rfl) rfl (.inr (fun _ s => s)) ?_
            refine TA.take 15 rfl rfl rfl rfl (StepS.idx rfl rfl (OwnS.rd (Ent.at 2 rfl)) ksliceB_22_3_1_true (idx_spec hxq45_15_2).1 (idxm_lt hxq45_15_2)) (by kernel_rfl) (by kernel_rfl) (by kernel_rfl) (by kernel_rfl) (by kernel_rfl) (fun _ s => s) ?_
            refine TA.take 16 rfl rfl rfl rfl (StepS.ld0 rfl (OwnS.rd (Ent.at 2 rfl)) kscalB_3_true rfl (idxm hxq45_15_2) rfl) (by kernel_rfl) (by kernel_rfl) (by kernel_rfl) (by kernel_rfl) (by kernel_rfl) (fun _ s => s) ?_
            refine TA.takeW 17 rfl rfl rfl rfl (StepS.move rfl) (by kernel_rfl) (by kernel_rfl) (by kernel_rfl) rfl (.inr (fun _ s => s)) ?_
            refine TA.takeW 18 rfl rfl rfl rfl (StepS.nilc rfl) (by kernel_rfl) (by kernel_rfl) (by kernel_rfl) rfl (.inr (fun _ s => s)) ?_
            refine TA.takeW 19 rfl rfl rfl rfl (StepS.fld rfl kfieldB_168_2_2_true) (by kernel_rfl) (by kernel_rfl) (by kernel_rfl) rfl (.inr (fun _ s => s)) ?_
            refine TA.take 20 rfl rfl rfl rfl (StepS.ldC (j := 2) rfl g0.tl.tl.tl.tl kscalB_22_true rfl rfl) (by kernel_rfl) (by kernel_rfl) (by kernel_rfl) (by kernel_rfl) (by kernel_rfl) (fun _ s => s) ?_
            refine TA.takeW 21 rfl rfl rfl rfl (StepS.move rfl) (by kernel_rfl) (by kernel_rfl) (by kernel_rfl) rfl (.inr (fun _ s => s)) ?_
            refine TA.take 22 rfl rfl rfl rfl (StepS.idx rfl rfl (OwnS.rd (Ent.at 2 rfl)) ksliceB_22_3_1_true (idx_spec hxq45_22_2).1 (idxm_lt hxq45_22_2)) (by kernel_rfl) (by kernel_rfl) (by kernel_rfl) (by kernel_rfl) (by kernel_rfl) (fun _ s => s) ?_
            refine TA.take 23 rfl rfl rfl rfl (StepS.ld0 rfl (OwnS.rd (Ent.at 2 rfl)) kscalB_3_true rfl (idxm hxq45_22_2) rfl) (by kernel_rfl) (by kernel_rfl) (by kernel_rfl) (by kernel_rfl) (by kernel_rfl) (fun _ s => s) ?_
            refine TA.takeW 24 rfl rfl rfl rfl (StepS.max2 rfl rfl) (by kernel_rfl) (by kernel_rfl) (by kernel_rfl) rfl (.inr (fun _ s => s)) ?_
            refine TA.takeW 25 rfl rfl rfl rfl (StepS.move rfl) (by kernel_rfl) (by kernel_rfl) (by kernel_rfl) rfl (.inr (fun _ s => s)) ?_
            refine TA.takeW 26 rfl rfl rfl rfl (StepS.nilc rfl) (by kernel_rfl) (by kernel_rfl) (by kernel_rfl) rfl (.inr (fun _ s => s)) ?_
            refine TA.takeW 27 rfl rfl rfl rfl (StepS.fld rfl kfieldB_168_3_3_true) (by kernel_rfl) (by kernel_rfl) (by kernel_rfl) rfl (.inr (fun _ s => s)) ?_
            refine TA.take 28 rfl rfl rfl rfl (StepS.ldC (j := 3) rfl g0.tl.tl.tl.tl kscalB_22_true rfl rfl) (by kernel_rfl) (by kernel_rfl) (by kernel_rfl) (by kernel_rfl) (by kernel_rfl) (fun _ s => s) ?_
            refine TA.takeW 29 rfl rfl rfl rfl (StepS.move rfl) (by kernel_rfl) (by kernel_rfl) (by kernel_rfl) rfl (.inr (fun _ s => s)) ?_
            refine TA.takeW 32 rfl rfl rfl rfl (StepS.move rfl) (by kernel_rfl) (by kernel_rfl) (by kernel_rfl) rfl (.inr (fun _ s => s)) ?_
            refine TA.takeW 33 rfl rfl rfl rfl (StepS.nilc rfl) (by kernel_rfl) (by kernel_rfl) (by kernel_rfl) rfl (.inr (fun _ s => s)) ?_
            refine TA.takeW 34 rfl rfl rfl rfl (StepS.fld rfl kfieldB_168_3_3_true) (by kernel_rfl) (by kernel_rfl) (by kernel_rfl) rfl (.inr (fun _ s => s)) ?_
            refine TA.take 35 rfl rfl rfl rfl (StepS.ldC (j := 3) rfl g0.tl.tl.tl.tl kscalB_22_true rfl rfl) (by kernel_rfl) (by kernel_rfl) (by kernel_rfl) (by kernel_rfl) (by kernel_rfl) (fun _ s => s) ?_
            refine TA.takeW 36 rfl rfl rfl rfl (StepS.move rfl) (by kernel_rfl) (by kernel_rfl) (by kernel_rfl) rfl (.inr (fun _ s => s)) ?_
            refine TA.all2 (i := 30) (j := 37) (by kernel_rfl) ?_ ?_
            · refine TB.of rfl ?_
              refine TO.s rfl rfl rfl (StepS.idx rfl rfl (OwnS.rd (Ent.at 3 rfl)) ksliceB_22_3_1_true (idx_spec hxq45_30_2).1 (idxm_lt hxq45_30_2)) ?_
              refine TA.back (.inr (fun _ s => s)) ?_
              refine TA.asL (L' := (MF (fun k : Int × Int => .agg #[I k.1, I k.2]) (fun x : Bool => .bool x) h0_2 (a0.2.1) :: MF (fun k : Int × Int => .agg #[I k.1, I k.2]) (fun x : Bool => .bool x) h0_1 (a0.1) :: OwnS 3 1 h0_3 (y33.map cI) :: OwnS 3 1 h0_4 (y34.map cI) :: L)) (listed' := #[true, true, true, true, true, true, true, true, true, true, true, true, true, true, true, true, true, true, true, true, true, true, true, true, true, true, true, true, true, true, true, false, true, true, true, true, true, false, false, false, false, false, false, false]) (by kernel_rfl) (by kernel_rfl) ?_
              refine TA.take 31 rfl rfl rfl rfl (StepS.ld0 rfl (OwnS.rd (Ent.at 3 rfl)) kscalB_3_true rfl (idxm hxq45_30_2) rfl) (by kernel_rfl) (by kernel_rfl) (by kernel_rfl) (by kernel_rfl) (by kernel_rfl) (fun _ s => s) ?_
              refine TA.all1 (i := 37) (by kernel_rfl) ?_
              refine TB.of rfl ?_
              refine TO.s rfl rfl rfl (StepS.idx rfl rfl (OwnS.rd (Ent.at 3 rfl)) ksliceB_22_3_1_true (idx_spec hxq45_37_2).1 (idxm_lt hxq45_37_2)) ?_
              refine TA.back (.inr (fun _ s => s)) ?_
              refine TA.asL (L' := (MF (fun k : Int × Int => .agg #[I k.1, I k.2]) (fun x : Bool => .bool x) h0_2 (a0.2.1) :: MF (fun k : Int × Int => .agg #[I k.1, I k.2]) (fun x : Bool => .bool x) h0_1 (a0.1) :: OwnS 3 1 h0_3 (y33.map cI) :: OwnS 3 1 h0_4 (y34.map cI) :: L)) (listed' := #[true, true, true, true, true, true, true, true, true, true, true, true, true, true, true, true, true, true, true, true, true, true, true, true, true, true, true, true, true, true, true, true, true, true, true, true, true, true, false, false, false, false, false, false]) (by kernel_rfl) (by kernel_rfl) ?_
              refine TA.take 38 rfl rfl rfl rfl (StepS.ld0 rfl (OwnS.rd (Ent.at 3 rfl)) kscalB_3_true rfl (idxm hxq45_37_2) rfl) (by kernel_rfl) (by kernel_rfl) (by kernel_rfl) (by kernel_rfl) (by kernel_rfl) (fun _ s => s) ?_
              refine TA.takeW 39 rfl rfl rfl rfl (StepS.max2 rfl rfl) (by kernel_rfl) (by kernel_rfl) (by kernel_rfl) rfl (.inr (fun _ s => s)) ?_
              refine TA.take 40 rfl rfl rfl rfl (StepS.idx rfl rfl (OwnS.rd (Ent.at 2 rfl)) ksliceB_22_3_1_true (idx_spec hxq45_40_2).1 (idxm_lt hxq45_40_2)) (by kernel_rfl) (by kernel_rfl) (by kernel_rfl) (by kernel_rfl) (by kernel_rfl) (fun _ s => s) ?_
              refine TA.all1 (i := 41) (by kernel_rfl) ?_
              refine TB.of rfl ?_
              refine TO.stO (i := x35.toNat) (off := 0) (us := [I (mx xq45_15_1 xq45_22_1)]) 2 (mx xq45_15_1 xq45_22_1) rfl rfl rfl ksizeB_3_1_true rfl rfl rfl (idx_spec hxq45_40_2).2 rfl (by simp [Value.oneCell']) rfl ?_
              refine TA.back (.inl (by kernel_rfl)) ?_
              refine TA.asL (L' := (MF (fun k : Int × Int => .agg #[I k.1, I k.2]) (fun x : Bool => .bool x) h0_2 (a0.2.1) :: MF (fun k : Int × Int => .agg #[I k.1, I k.2]) (fun x : Bool => .bool x) h0_1 (a0.1) :: OwnS 3 1 h0_3 ((y33.set x35.toNat (mx xq45_15_1 xq45_22_1)).map cI) :: OwnS 3 1 h0_4 (y34.map cI) :: L)) (listed' := #[true, true, true, true, true, true, true, true, true, true, true, true, true, true, true, true, true, true, true, true, true, true, true, true, true, true, true, true, true, true, true, true, true, true, true, true, true, true, true, true, true, true, false, false]) (by kernel_rfl) (by kernel_rfl) ?_
              refine TA.all1 (i := 42) (by kernel_rfl) ?_
              refine TB.of rfl ?_
              refine TO.s rfl rfl rfl (StepS.idx rfl rfl (OwnS.rd (Ent.at 3 rfl)) ksliceB_22_3_1_true (idx_spec hxq45_42_2).1 (idxm_lt hxq45_42_2)) ?_
              refine TA.back (.inl (by kernel_rfl)) ?_
              refine TA.asL (L' := (MF (fun k : Int × Int => .agg #[I k.1, I k.2]) (fun x : Bool => .bool x) h0_2 (a0.2.1) :: MF (fun k : Int × Int => .agg #[I k.1, I k.2]) (fun x : Bool => .bool x) h0_1 (a0.1) :: OwnS 3 1 h0_3 ((y33.set x35.toNat (mx xq45_15_1 xq45_22_1)).map cI) :: OwnS 3 1 h0_4 (y34.map cI) :: L)) (listed' := #[true, true, true, true, true, true, true, true, true, true, true, true, true, true, true, true, true, true, true, true, true, true, true, true, true, true, true, true, true, true, true, true, true, true, true, true, true, true, true, true, true, true, true, false]) (by kernel_rfl) (by kernel_rfl) ?_
              refine TA.all1 (i := 43) (by kernel_rfl) ?_
              refine TB.of rfl ?_
              refine TO.stO (i := x35.toNat) (off := 0) (us := [I (mx xq45_30_1 xq45_37_1)]) 3 (mx xq45_30_1 xq45_37_1) rfl rfl rfl ksizeB_3_1_true rfl rfl rfl (idx_spec hxq45_42_2).2 rfl (by simp [Value.oneCell']) rfl ?_
              refine TA.back (.inl (by kernel_rfl)) ?_
              refine TA.asL (L' := (MF (fun k : Int × Int => .agg #[I k.1, I k.2]) (fun x : Bool => .bool x) h0_2 (a0.2.1) :: MF (fun k : Int × Int => .agg #[I k.1, I k.2]) (fun x : Bool => .bool x) h0_1 (a0.1) :: OwnS 3 1 h0_3 ((y33.set x35.toNat (mx xq45_15_1 xq45_22_1)).map cI) :: OwnS 3 1 h0_4 ((y34.set x35.toNat (mx xq45_30_1 xq45_37_1)).map cI) :: L)) (listed' := #[true, true, true, true, true, true, true, true, true, true, true, true, true, true, true, true, true, true, true, true, true, true, true, true, true, true, true, true, true, true, true, true, true, true, true, true, true, true, true, true, true, true, true, true]) (by kernel_rfl) (by kernel_rfl) ?_
              cases hj48
              refine TA.nil (by kernel_rfl) fun a w e s => ?_
              exact ⟨e.sub (lk_of_allIn ⟨rfl, rfl, rfl, rfl, trivial⟩), s⟩
            · refine TB.of rfl ?_
              refine TO.s rfl rfl rfl (StepS.idx rfl rfl (OwnS.rd (Ent.at 3 rfl)) ksliceB_22_3_1_true (idx_spec hxq45_37_2).1 (idxm_lt hxq45_37_2)) ?_
              refine TA.back (.inr (fun _ s => s)) ?_
              refine TA.asL (L' := (MF (fun k : Int × Int => .agg #[I k.1, I k.2]) (fun x : Bool => .bool x) h0_2 (a0.2.1) :: MF (fun k : Int × Int => .agg #[I k.1, I k.2]) (fun x : Bool => .bool x) h0_1 (a0.1) :: OwnS 3 1 h0_3 (y33.map cI) :: OwnS 3 1 h0_4 (y34.map cI) :: L)) (listed' := #[true, true, true, true, true, true, true, true, true, true, true, true, true, true, true, true, true, true, true, true, true, true, true, true, true, true, true, true, true, true, false, false, true, true, true, true, true, true, false, false, false, false, false, false]) (by kernel_rfl) (by kernel_rfl) ?_
              refine TA.take 38 rfl rfl rfl rfl (StepS.ld0 rfl (OwnS.rd (Ent.at 3 rfl)) kscalB_3_true rfl (idxm hxq45_37_2) rfl) (by kernel_rfl) (by kernel_rfl) (by kernel_rfl) (by kernel_rfl) (by kernel_rfl) (fun _ s => s) ?_
              refine TA.all1 (i := 30) (by kernel_rfl) ?_
              refine TB.of rfl ?_
              refine TO.s rfl rfl rfl (StepS.idx rfl rfl (OwnS.rd (Ent.at 3 rfl)) ksliceB_22_3_1_true (idx_spec hxq45_30_2).1 (idxm_lt hxq45_30_2)) ?_
              refine TA.back (.inr (fun _ s => s)) ?_
              refine TA.asL (L' := (MF (fun k : Int × Int => .agg #[I k.1, I k.2]) (fun x : Bool => .bool x) h0_2 (a0.2.1) :: MF (fun k : Int × Int => .agg #[I k.1, I k.2]) (fun x : Bool => .bool x) h0_1 (a0.1) :: OwnS 3 1 h0_3 (y33.map cI) :: OwnS 3 1 h0_4 (y34.map cI) :: L)) (listed' := #[true, true, true, true, true, true, true, true, true, true, true, true, true, true, true, true, true, true, true, true, true, true, true, true, true, true, true, true, true, true, true, false, true, true, true, true, true, true, true, false, false, false, false, false]) (by kernel_rfl) (by kernel_rfl) ?_
              refine TA.take 31 rfl rfl rfl rfl (StepS.ld0 rfl (OwnS.rd (Ent.at 3 rfl)) kscalB_3_true rfl (idxm hxq45_30_2) rfl) (by kernel_rfl) (by kernel_rfl) (by kernel_rfl) (by kernel_rfl) (by kernel_rfl) (fun _ s => s) ?_
              refine TA.takeW 39 rfl rfl rfl rfl (StepS.max2 rfl rfl) (by kernel_rfl) (by kernel_rfl) (by kernel_rfl) rfl (.inr (fun _ s => s)) ?_
              refine TA.take 40 rfl rfl rfl rfl (StepS.idx rfl rfl (OwnS.rd (Ent.at 2 rfl)) ksliceB_22_3_1_true (idx_spec hxq45_40_2).1 (idxm_lt hxq45_40_2)) (by kernel_rfl) (by kernel_rfl) (by kernel_rfl) (by kernel_rfl) (by kernel_rfl) (fun _ s => s) ?_
              refine TA.all1 (i := 41) (by kernel_rfl) ?_
              refine TB.of rfl ?_
              refine TO.stO (i := x35.toNat) (off := 0) (us := [I (mx xq45_15_1 xq45_22_1)]) 2 (mx xq45_15_1 xq45_22_1) rfl rfl rfl ksizeB_3_1_true rfl rfl rfl (idx_spec hxq45_40_2).2 rfl (by simp [Value.oneCell']) rfl ?_
              refine TA.back (.inl (by kernel_rfl)) ?_
              refine TA.asL (L' := (MF (fun k : Int × Int => .agg #[I k.1, I k.2]) (fun x : Bool => .bool x) h0_2 (a0.2.1) :: MF (fun k : Int × Int => .agg #[I k.1, I k.2]) (fun x : Bool => .bool x) h0_1 (a0.1) :: OwnS 3 1 h0_3 ((y33.set x35.toNat (mx xq45_15_1 xq45_22_1)).map cI) :: OwnS 3 1 h0_4 (y34.map cI) :: L)) (listed' := #[true, true, true, true, true, true, true, true, true, true, true, true, true, true, true, true, true, true, true, true, true, true, true, true, true, true, true, true, true, true, true, true, true, true, true, true, true, true, true, true, true, true, false, false]) (by kernel_rfl) (by kernel_rfl) ?_
              refine TA.all1 (i := 42) (by kernel_rfl) ?_
              refine TB.of rfl ?_
              refine TO.s rfl rfl rfl (StepS.idx rfl rfl (OwnS.rd (Ent.at 3 rfl)) ksliceB_22_3_1_true (idx_spec hxq45_42_2).1 (idxm_lt hxq45_42_2)) ?_
              refine TA.back (.inl (by kernel_rfl)) ?_
              refine TA.asL (L' := (MF (fun k : Int × Int => .agg #[I k.1, I k.2]) (fun x : Bool => .bool x) h0_2 (a0.2.1) :: MF (fun k : Int × Int => .agg #[I k.1, I k.2]) (fun x : Bool => .bool x) h0_1 (a0.1) :: OwnS 3 1 h0_3 ((y33.set x35.toNat (mx xq45_15_1 xq45_22_1)).map cI) :: OwnS 3 1 h0_4 (y34.map cI) :: L)) (listed' := #[true, true, true, true, true, true, true, true, true, true, true, true, true, true, true, true, true, true, true, true, true, true, true, true, true, true, true, true, true, true, true, true, true, true, true, true, true, true, true, true, true, true, true, false]) (by kernel_rfl) (by kernel_rfl) ?_
              refine TA.all1 (i := 43) (by kernel_rfl) ?_
              refine TB.of rfl ?_
              refine TO.stO (i := x35.toNat) (off := 0) (us := [I (mx xq45_30_1 xq45_37_1)]) 3 (mx xq45_30_1 xq45_37_1) rfl rfl rfl ksizeB_3_1_true rfl rfl rfl (idx_spec hxq45_42_2).2 rfl (by simp [Value.oneCell']) rfl ?_
              refine TA.back (.inl (by kernel_rfl)) ?_
              refine TA.asL (L' := (MF (fun k : Int × Int => .agg #[I k.1, I k.2]) (fun x : Bool => .bool x) h0_2 (a0.2.1) :: MF (fun k : Int × Int => .agg #[I k.1, I k.2]) (fun x : Bool => .bool x) h0_1 (a0.1) :: OwnS 3 1 h0_3 ((y33.set x35.toNat (mx xq45_15_1 xq45_22_1)).map cI) :: OwnS 3 1 h0_4 ((y34.set x35.toNat (mx xq45_30_1 xq45_37_1)).map cI) :: L)) (listed' := #[true, true, true, true, true, true, true, true, true, true, true, true, true, true, true, true, true, true, true, true, true, true, true, true, true, true, true, true, true, true, true, true, true, true, true, true, true, true, true, true, true, true, true, true]) (by kernel_rfl) (by kernel_rfl) ?_
              cases hj48
              refine TA.nil (by kernel_rfl) fun a w e s => ?_
              exact ⟨e.sub (lk_of_allIn ⟨rfl, rfl, rfl, rfl, trivial⟩), s⟩
          · intro a w ⟨he, hs⟩
            refine TC.use ?_ he hs
            refine TC.region ?_
            refine TO.s rfl rfl rfl (StepS.ari rfl rfl rfl) ?_
            refine TO.s rfl rfl rfl (StepS.move rfl) ?_
            cases hb43
            refine TO.nil fun a w e s => ?_
            exact ⟨e.sub (lk_of_allIn ⟨rfl, rfl, rfl, rfl, trivial⟩), s⟩
        · replace hb43 := cond_f hc44 hb43
          cases hb43
          refine TC.exit rfl fun a w e s => ?_
          exact ⟨e.sub (lk_of_allIn trivial), s⟩
      · exact fun a w e s => ⟨e.sub (lk_of_allIn ⟨rfl, rfl, rfl, rfl, trivial⟩), s⟩
      · rintro ⟨y39, y40⟩ rfl a w ⟨he, hs⟩
        dsimp only [Ctl.on] at hm
        cases hm
        have e := he; have s := hs
        refine FRet.mk0 (P := Try.prog) (fn := Try.f102) e rfl ?_
        refine ⟨_, _, rfl, ⟨rfl, rfl⟩, ?_⟩
        refine s.mono fun _ s => ?_
        replace s := Sat.front 3 rfl s
        replace s := Sat.front 3 rfl s
        replace s := Sat.front 2 rfl s
        replace s := Sat.front 3 rfl s
        exact s
      · rintro r rfl
        exact fun a w h => h.elim
    · rintro r rfl
      exact fun a w h => h.elim
  · rintro r rfl
    exact fun a w h => h.elim

set_option maxHeartbeats 1000000 in
set_option maxRecDepth 100000 in
theorem C68 {B : World} {L : List HP} {a0 : (List (((Int × Int) → Option Bool) × ((Int × Int) → Option Bool) × (List Int) × List Int)) × Int} {a1 : Int × Int × Int × Int} {b0_ : Nat} {h0_1 : Value} {h0_2 : List (List Value)} {r0 : Int} {s0 : (List (((Int × Int) → Option Bool) × ((Int × Int) → Option Bool) × (List Int) × List Int)) × Int} (hm : F68 a0 a1 = some (r0, s0)) {w : World} (st : St B (Bx b0_ 165 [h0_1, I a0.2] :: SN 168 4 nT168 h0_1 h0_2 (a0.1) :: L) w) : Calls Try.prog 68 #[.pointer (some ⟨b0_, 0, none⟩), .agg (cTiiii a1).toArray] w (fun e w' => ∃ v M, e = .returned v ∧ (∃ (qhs1 : List (List Value)), v = I r0 ∧ M = (Bx b0_ 165 [h0_1, I s0.2] :: SN 168 4 nT168 h0_1 qhs1 (s0.1) :: L)) ∧ St B M w') := by
  refine calls_of (N := 139) (L := (Bx b0_ 165 [h0_1, I a0.2] :: SN 168 4 nT168 h0_1 h0_2 (a0.1) :: L)) (args := [.pointer (some ⟨b0_, 0, none⟩), .agg (cTiiii a1).toArray]) Try.func68 rfl rfl rfl ?_ st
  dsimp only [F68] at hm
  refine TC.k ?_
  refine TC.region ?_
  refine TO.box (cs := [.pointer (some ⟨b0_, 0, none⟩)]) rfl rfl rfl fun b3 => ?_
  refine TO.box (cs := [I a1.1, I a1.2.1, I a1.2.2.1, I a1.2.2.2]) rfl rfl rfl fun b4 => ?_
  refine TO.s rfl rfl rfl (StepS.assign rfl) ?_
  refine TO.code ?_
  refine TC.k ?_
  refine TC.region ?_
  refine TO.s rfl rfl rfl (StepS.mkfn rfl) ?_
  refine TO.s rfl rfl rfl (StepS.assign rfl) ?_
  refine TO.code ?_
  refine TC.k ?_
  refine TC.block ?_
  refine TC.k ?_
  refine TC.region ?_
  refine TO.s rfl rfl rfl (StepS.fld rfl kfieldB_106_0_0_true) ?_
  refine TO.s rfl rfl rfl (StepS.ldB rfl (Ent.at 0 rfl) kscalB_3_true rfl) ?_
  refine TO.s rfl rfl rfl (StepS.cmp rfl rfl rfl) ?_
  refine TO.s rfl rfl rfl (StepS.move rfl) ?_
  refine TO.mid1 4 19 (.bool ((decide (a1.1 < 1)) || (decide (a1.1 > 4)))) ?_ ?_
  · refine bcase ((decide (a1.1 < 1))) (fun hb5 => ?_) (fun hb5 => ?_)
    · refine TO.skip rfl rfl rfl (skipT hb5) rfl rfl ?_
      refine TO.skip rfl rfl rfl (skipT hb5) rfl rfl ?_
      refine TO.skip rfl rfl rfl (skipT hb5) rfl rfl ?_
      refine TO.s rfl rfl rfl (StepS.pickT rfl hb5 rfl) ?_
      exact TO.up1 4 0 rfl rfl (by rw [hb5]; rfl) rfl
    · refine TO.sw rfl rfl rfl hb5 rfl rfl (StepS.fld rfl kfieldB_106_0_0_true) ?_
      refine TO.sw rfl rfl rfl hb5 rfl rfl (StepS.ldB rfl (Ent.at 0 rfl) kscalB_3_true rfl) ?_
      refine TO.sw rfl rfl rfl hb5 rfl rfl (StepS.cmp rfl rfl rfl) ?_
      refine TO.s rfl rfl rfl (StepS.pickF rfl hb5 rfl) ?_
      exact TO.up1 4 0 rfl rfl (by rw [hb5]; rfl) rfl
  refine TO.s rfl rfl rfl (StepS.assign rfl) ?_
  refine TO.code ?_
  refine TC.cond rfl (fun hc6 => ?_) (fun hc6 => ?_)
  · replace hm := cond_t hc6 hm
    refine TC.k ?_
    refine TC.region ?_
    refine TO.s rfl rfl rfl (StepS.assign rfl) ?_
    refine TO.code ?_
    cases hm
    refine TC.ret fun a w e s => ?_
    refine FRet.mk1 (P := Try.prog) (fn := Try.f68) (t := 4) e rfl rfl ?_
    refine ⟨_, _, rfl, ⟨(h0_2), rfl, rfl⟩, ?_⟩
    refine s.mono fun _ s => ?_
    replace s := Sat.front 3 rfl s
    replace s := Sat.front 3 rfl s
    replace s := Sat.erase 2 s
    replace s := Sat.erase 2 s
    exact s
  · replace hm := cond_f hc6 hm
    refine TC.k ?_
    refine TC.region ?_
    refine TO.s rfl rfl rfl (StepS.move rfl) ?_
    refine TO.s rfl rfl rfl (StepS.fld rfl kfieldB_106_1_1_true) ?_
    refine TO.s rfl rfl rfl (StepS.ldB rfl (Ent.at 0 rfl) kscalB_3_true rfl) ?_
    obtain ⟨r7, hc8, hm⟩ := bind_some hm
    refine TO.q rfl rfl rfl (StepQ.callC kcallB_101_true rfl rfl rfl (fun _ st => C101 (Ent.at 1 rfl) (Ent.at 2 rfl) (SN.hd (Ent.at 3 rfl)) hc8 st)) ?_
    refine TO.s rfl rfl rfl (StepS.move rfl) ?_
    obtain ⟨b10, hj11, hm⟩ := bind_some hm
    refine TO.mid1 10 35 (.bool b10) ?_ ?_
    · refine bcase (r7) (fun hb9 => ?_) (fun hb9 => ?_)
      · replace hj11 := cond_t hb9 hj11
        cases hj11
        refine TO.skip rfl rfl rfl (skipT hb9) rfl rfl ?_
        refine TO.skip rfl rfl rfl (skipT hb9) rfl rfl ?_
        refine TO.skip rfl rfl rfl (skipT hb9) rfl rfl ?_
        refine TO.skip rfl rfl rfl (skipT hb9) rfl rfl ?_
        refine TO.skip rfl rfl rfl skipU rfl rfl ?_
        refine TO.skip rfl rfl rfl skipU rfl rfl ?_
        refine TO.skip rfl rfl rfl skipU rfl rfl ?_
        refine TO.skip rfl rfl rfl skipU rfl rfl ?_
        refine TO.skip rfl rfl rfl (skipT hb9) rfl rfl ?_
        refine TO.s rfl rfl rfl (StepS.pickT rfl hb9 rfl) ?_
        exact TO.up1 10 0 rfl rfl rfl rfl
      · replace hj11 := cond_f hb9 hj11
        refine TO.sw rfl rfl rfl hb9 rfl rfl (StepS.fld rfl kfieldB_106_0_0_true) ?_
        refine TO.sw rfl rfl rfl hb9 rfl rfl (StepS.ldB rfl (Ent.at 0 rfl) kscalB_3_true rfl) ?_
        refine TO.sw rfl rfl rfl hb9 rfl rfl (StepS.cmp rfl rfl rfl) ?_
        refine TO.sw rfl rfl rfl hb9 rfl rfl (StepS.move rfl) ?_
        obtain ⟨b13, hj14, hj11⟩ := bind_some hj11
        refine TO.mid1 5 34 (.bool b13) ?_ ?_
        · refine bcase ((a1.1 == 4)) (fun hb12 => ?_) (fun hb12 => ?_)
          · replace hj14 := cond_t hb12 hj14
            refine TO.sw rfl rfl rfl hb12 rfl rfl (StepS.move rfl) ?_
            refine TO.sw rfl rfl rfl hb12 rfl rfl (StepS.fld rfl kfieldB_106_2_2_true) ?_
            refine TO.sw rfl rfl rfl hb12 rfl rfl (StepS.ldB rfl (Ent.at 0 rfl) kscalB_3_true rfl) ?_
            obtain ⟨r15, hc16, hj14⟩ := bind_some hj14
            refine TO.qw rfl rfl rfl hb12 rfl rfl (StepQ.callC kcallB_101_true rfl rfl rfl (fun _ st => C101 (Ent.at 1 rfl) (Ent.at 2 rfl) (SN.hd (Ent.at 3 rfl)) hc16 st)) ?_
            cases hj14
            refine TO.sw rfl rfl rfl hb9 rfl rfl (StepS.pickT rfl hb12 rfl) ?_
            exact TO.up1 5 0 rfl rfl rfl rfl
          · replace hj14 := cond_f hb12 hj14
            cases hj14
            refine TO.skip rfl rfl rfl (skipF hb12) rfl rfl ?_
            refine TO.skip rfl rfl rfl (skipF hb12) rfl rfl ?_
            refine TO.skip rfl rfl rfl (skipF hb12) rfl rfl ?_
            refine TO.skip rfl rfl rfl (skipF hb12) rfl rfl ?_
            refine TO.sw rfl rfl rfl hb9 rfl rfl (StepS.pickF rfl hb12 rfl) ?_
            exact TO.up1 5 0 rfl rfl rfl rfl
        cases hj11
        refine TO.s rfl rfl rfl (StepS.pickF rfl hb9 rfl) ?_
        exact TO.up1 6 0 rfl rfl rfl rfl
    refine TO.s rfl rfl rfl (StepS.assign rfl) ?_
    refine TO.code ?_
    refine TC.cond rfl (fun hc17 => ?_) (fun hc17 => ?_)
    · replace hm := cond_t hc17 hm
      refine TC.k ?_
      refine TC.region ?_
      refine TO.s rfl rfl rfl (StepS.assign rfl) ?_
      refine TO.code ?_
      cases hm
      refine TC.ret fun a w e s => ?_
      refine FRet.mk1 (P := Try.prog) (fn := Try.f68) (t := 4) e rfl rfl ?_
      refine ⟨_, _, rfl, ⟨(h0_2), rfl, rfl⟩, ?_⟩
      refine s.mono fun _ s => ?_
      replace s := Sat.front 3 rfl s
      replace s := Sat.front 3 rfl s
      replace s := Sat.erase 2 s
      replace s := Sat.erase 2 s
      exact s
    · replace hm := cond_f hc17 hm
      refine TC.k ?_
      refine TC.region ?_
      refine TO.s rfl rfl rfl (StepS.fld rfl kfieldB_106_0_0_true) ?_
      refine TO.s rfl rfl rfl (StepS.ldB rfl (Ent.at 0 rfl) kscalB_3_true rfl) ?_
      refine TO.s rfl rfl rfl (StepS.cmp rfl rfl rfl) ?_
      refine TO.s rfl rfl rfl (StepS.move rfl) ?_
      refine TO.mid1 9 49 (.bool ((decide (a1.1 ≤ 2)) && ((decide (a1.2.2.2 < 0)) || (decide (a1.2.2.2 > 8))))) ?_ ?_
      · refine bcase ((decide (a1.1 ≤ 2))) (fun hb18 => ?_) (fun hb18 => ?_)
        · refine TO.sw rfl rfl rfl hb18 rfl rfl (StepS.fld rfl kfieldB_106_3_3_true) ?_
          refine TO.sw rfl rfl rfl hb18 rfl rfl (StepS.ldB rfl (Ent.at 0 rfl) kscalB_3_true rfl) ?_
          refine TO.sw rfl rfl rfl hb18 rfl rfl (StepS.cmp rfl rfl rfl) ?_
          refine TO.sw rfl rfl rfl hb18 rfl rfl (StepS.move rfl) ?_
          refine TO.mid1 4 48 (.bool ((decide (a1.2.2.2 < 0)) || (decide (a1.2.2.2 > 8)))) ?_ ?_
          · refine bcase ((decide (a1.2.2.2 < 0))) (fun hb19 => ?_) (fun hb19 => ?_)
            · refine TO.skip rfl rfl rfl (skipT hb19) rfl rfl ?_
              refine TO.skip rfl rfl rfl (skipT hb19) rfl rfl ?_
              refine TO.skip rfl rfl rfl (skipT hb19) rfl rfl ?_
              refine TO.sw rfl rfl rfl hb18 rfl rfl (StepS.pickT rfl hb19 rfl) ?_
              exact TO.up1 4 0 rfl rfl (by rw [hb19]; rfl) rfl
            · refine TO.sw rfl rfl rfl hb19 rfl rfl (StepS.fld rfl kfieldB_106_3_3_true) ?_
              refine TO.sw rfl rfl rfl hb19 rfl rfl (StepS.ldB rfl (Ent.at 0 rfl) kscalB_3_true rfl) ?_
              refine TO.sw rfl rfl rfl hb19 rfl rfl (StepS.cmp rfl rfl rfl) ?_
              refine TO.sw rfl rfl rfl hb18 rfl rfl (StepS.pickF rfl hb19 rfl) ?_
              exact TO.up1 4 0 rfl rfl (by rw [hb19]; rfl) rfl
          refine TO.s rfl rfl rfl (StepS.pickT rfl hb18 rfl) ?_
          exact TO.up1 6 0 rfl rfl (by rw [hb18]; rfl) rfl
        · refine TO.skip rfl rfl rfl (skipF hb18) rfl rfl ?_
          refine TO.skip rfl rfl rfl (skipF hb18) rfl rfl ?_
          refine TO.skip rfl rfl rfl (skipF hb18) rfl rfl ?_
          refine TO.skip rfl rfl rfl (skipF hb18) rfl rfl ?_
          refine TO.skip rfl rfl rfl skipU rfl rfl ?_
          refine TO.skip rfl rfl rfl skipU rfl rfl ?_
          refine TO.skip rfl rfl rfl skipU rfl rfl ?_
          refine TO.skip rfl rfl rfl (skipF hb18) rfl rfl ?_
          refine TO.s rfl rfl rfl (StepS.pickF rfl hb18 rfl) ?_
          exact TO.up1 9 0 rfl rfl (by rw [hb18]; rfl) rfl
      refine TO.s rfl rfl rfl (StepS.assign rfl) ?_
      refine TO.code ?_
      refine TC.cond rfl (fun hc20 => ?_) (fun hc20 => ?_)
      · replace hm := cond_t hc20 hm
        refine TC.k ?_
        refine TC.region ?_
        refine TO.s rfl rfl rfl (StepS.assign rfl) ?_
        refine TO.code ?_
        cases hm
        refine TC.ret fun a w e s => ?_
        refine FRet.mk1 (P := Try.prog) (fn := Try.f68) (t := 4) e rfl rfl ?_
        refine ⟨_, _, rfl, ⟨(h0_2), rfl, rfl⟩, ?_⟩
        refine s.mono fun _ s => ?_
        replace s := Sat.front 3 rfl s
        replace s := Sat.front 3 rfl s
        replace s := Sat.erase 2 s
        replace s := Sat.erase 2 s
        exact s
      · replace hm := cond_f hc20 hm
        refine TC.skipk ?_
        refine TC.k ?_
        refine TC.region_still kfollows_mixedOrders_true (by kernel_rfl) ?_
        refine TS.s rfl rfl rfl (StepS.ldB rfl (Ent.at 1 rfl) kscalB_162_true rfl) ?_
        refine TS.s rfl rfl rfl (StepS.nilc rfl) ?_
        refine TS.s rfl rfl rfl (StepS.fld rfl kfieldB_165_0_0_true) ?_
        refine TS.s rfl rfl rfl (StepS.ldB rfl (Ent.at 2 rfl) kscalB_163_true rfl) ?_
        refine TS.s rfl rfl rfl (StepS.fld rfl kfieldB_106_1_1_true) ?_
        refine TS.s rfl rfl rfl (StepS.ldB rfl (Ent.at 0 rfl) kscalB_3_true rfl) ?_
        obtain ⟨x21, hx22, hm⟩ := bind_some hm
        refine TS.s rfl rfl rfl (StepS.idxN rfl rfl (Ent.at 3 rfl) ksliceB_163_168_4_true hx22) ?_
        refine TS.s rfl rfl rfl (StepS.assign rfl) ?_
        refine TS.code ?_
        refine TC.k ?_
        refine TC.k ?_
        refine TC.region ?_
        refine TO.s rfl rfl rfl (StepS.fld rfl kfieldB_106_0_0_true) ?_
        refine TO.s rfl rfl rfl (StepS.ldB rfl (Ent.at 0 rfl) kscalB_3_true rfl) ?_
        refine TO.code ?_
        refine TC.block ?_
        refine TC.k ?_
        refine TC.region ?_
        refine TO.s rfl rfl rfl (StepS.cmp rfl rfl rfl) ?_
        refine TO.s rfl rfl rfl (StepS.assign rfl) ?_
        refine TO.code ?_
        refine TC.cond rfl (fun hc23 => ?_) (fun hc23 => ?_)
        · replace hm := cond_t hc23 hm
          refine TC.k ?_
          refine TC.region ?_
          refine TO.s rfl rfl rfl (StepS.ldB rfl (Ent.at 1 rfl) kscalB_162_true rfl) ?_
          refine TO.s rfl rfl rfl (StepS.nilc rfl) ?_
          refine TO.s rfl rfl rfl (StepS.fld rfl kfieldB_165_1_1_true) ?_
          refine TO.s rfl rfl rfl (StepS.ldB rfl (Ent.at 2 rfl) kscalB_3_true rfl) ?_
          refine TO.s rfl rfl rfl (StepS.ari rfl rfl rfl) ?_
          refine TO.s rfl rfl rfl (StepS.nilc rfl) ?_
          refine TO.s rfl rfl rfl (StepS.fld rfl kfieldB_165_1_1_true) ?_
          refine TO.stB (us := [I (w64 (a0.2 + 1))]) 2 [h0_1, I (w64 (a0.2 + 1))] rfl rfl rfl ksizeB_3_1_true rfl rfl rfl (by simp [Value.oneCell']) rfl ?_
          refine TO.code ?_
          refine TC.region_tail 11 kfollows_mixedOrders_true (by kernel_rfl) ?_
          refine TS.s rfl rfl rfl (StepS.move rfl) ?_
          refine TS.s rfl rfl rfl (StepS.nilc rfl) ?_
          refine TS.s rfl rfl rfl (StepS.ptrf rfl kfieldB_168_0_0_true) ?_
          refine TS.s rfl rfl rfl (StepS.ldN (j := 0) rfl (Ent.at 3 rfl) kscalB_166_true hx22 rfl rfl) ?_
          refine TS.s rfl rfl rfl (StepS.fld rfl kfieldB_106_3_3_true) ?_
          refine TS.s rfl rfl rfl (StepS.ldB rfl (Ent.at 0 rfl) kscalB_3_true rfl) ?_
          refine TS.s rfl rfl rfl (StepS.ldB rfl (Ent.at 1 rfl) kscalB_162_true rfl) ?_
          refine TS.s rfl rfl rfl (StepS.nilc rfl) ?_
          refine TS.s rfl rfl rfl (StepS.fld rfl kfieldB_165_1_1_true) ?_
          refine TS.s rfl rfl rfl (StepS.ldB rfl (Ent.at 2 rfl) kscalB_3_true rfl) ?_
          refine TS.s rfl rfl rfl (StepS.build (cs := [I a1.2.2.2, I (w64 (a0.2 + 1))]) rfl (by kernel_rfl)) ?_
          refine TS.nil ?_
          refine TO.at ?_
          refine TO.ghost (fun _ s => Sat.front 3 rfl s) ?_
          refine TO.openN (L' := (MF (fun k : Int × Int => .agg #[I k.1, I k.2]) (fun x : Bool => .bool x) (mv (cv (gr h0_2 a1.2.1.toNat) 0)) (x21.1) :: MF (fun k : Int × Int => .agg #[I k.1, I k.2]) (fun x : Bool => .bool x) (mv (cv (gr h0_2 a1.2.1.toNat) 1)) (x21.2.1) :: OwnS 3 1 (cv (gr h0_2 a1.2.1.toNat) 2) (x21.2.2.1.map cI) :: OwnS 3 1 (cv (gr h0_2 a1.2.1.toNat) 3) (x21.2.2.2.map cI) :: SNh 168 4 nT168 h0_1 h0_2 (a0.1) a1.2.1.toNat [.map (some (mv (cv (gr h0_2 a1.2.1.toNat) 0))), .map (some (mv (cv (gr h0_2 a1.2.1.toNat) 1))), (cv (gr h0_2 a1.2.1.toNat) 2), (cv (gr h0_2 a1.2.1.toNat) 3)] :: Bx b4 106 [I a1.1, I a1.2.1, I a1.2.2.1, I a1.2.2.2] :: Bx b3 162 [.pointer (some ⟨b0_, 0, none⟩)] :: Bx b0_ 165 [h0_1, I (w64 (a0.2 + 1))] :: L)) rfl hx22 rfl ?_
          refine TO.msetF (k := (a1.2.2.2, w64 (a0.2 + 1))) (v := true) 0 kmapGB_166_217_4_true (KeyOk.tagOf ktagB_217_3_true kunderlying_3_some_int_i64 ksizeB_3_1_true kscalB_3_true kstoodInHeld_217_false) rfl rfl rfl rfl ?_
          refine TO.ghost (fun _ s => Sat.front 4 rfl s) ?_
          refine TO.ghost (fun _ s => Sat.front 4 rfl s) ?_
          refine TO.ghost (fun _ s => Sat.front 4 rfl s) ?_
          refine TO.ghost (fun _ s => Sat.front 4 rfl s) ?_
          refine TO.ghost (fun _ s => Sat.front 4 rfl s) ?_
          obtain ⟨y31, hy32, hm⟩ := bind_some hm
          refine TO.closeN (T := nT168) (cs := [.map (some (mv (cv (gr h0_2 a1.2.1.toNat) 0))), .map (some (mv (cv (gr h0_2 a1.2.1.toNat) 1))), (cv (gr h0_2 a1.2.1.toNat) 2), (cv (gr h0_2 a1.2.1.toNat) 3)]) [.map (some (mv (cv (gr h0_2 a1.2.1.toNat) 0))), .map (some (mv (cv (gr h0_2 a1.2.1.toNat) 1))), (cv (gr h0_2 a1.2.1.toNat) 2), (cv (gr h0_2 a1.2.1.toNat) 3)] (mupd x21.1 (a1.2.2.2, w64 (a0.2 + 1)) true, x21.2.1, x21.2.2.1, x21.2.2.2) rfl rfl hx22 (Option.some.inj hy32) fun hs30 => ?_
          refine TO.code ?_
          refine TC.k ?_
          refine TC.region ?_
          refine TO.s rfl rfl rfl (StepS.assign rfl) ?_
          refine TO.code ?_
          cases hm
          refine TC.ret fun a w e s => ?_
          refine FRet.mk1 (P := Try.prog) (fn := Try.f68) (t := 4) e rfl rfl ?_
          refine ⟨_, _, rfl, ⟨(hs30), rfl, rfl⟩, ?_⟩
          refine s.mono fun _ s => ?_
          replace s := Sat.front 0 rfl s
          replace s := Sat.front 3 rfl s
          replace s := Sat.erase 2 s
          replace s := Sat.erase 2 s
          exact s
        · replace hm := cond_f hc23 hm
          refine TC.k ?_
          refine TC.region ?_
          refine TO.s rfl rfl rfl (StepS.cmp rfl rfl rfl) ?_
          refine TO.s rfl rfl rfl (StepS.assign rfl) ?_
          refine TO.code ?_
          refine TC.cond rfl (fun hc33 => ?_) (fun hc33 => ?_)
          · replace hm := cond_t hc33 hm
            refine TC.k ?_
            refine TC.region ?_
            refine TO.s rfl rfl rfl (StepS.move rfl) ?_
            refine TO.s rfl rfl rfl (StepS.fld rfl kfieldB_106_3_3_true) ?_
            refine TO.s rfl rfl rfl (StepS.ldB rfl (Ent.at 0 rfl) kscalB_3_true rfl) ?_
            refine TO.ghost (fun _ s => Sat.front 3 rfl s) ?_
            refine TO.openN (L' := (MF (fun k : Int × Int => .agg #[I k.1, I k.2]) (fun x : Bool => .bool x) (mv (cv (gr h0_2 a1.2.1.toNat) 0)) (x21.1) :: MF (fun k : Int × Int => .agg #[I k.1, I k.2]) (fun x : Bool => .bool x) (mv (cv (gr h0_2 a1.2.1.toNat) 1)) (x21.2.1) :: OwnS 3 1 (cv (gr h0_2 a1.2.1.toNat) 2) (x21.2.2.1.map cI) :: OwnS 3 1 (cv (gr h0_2 a1.2.1.toNat) 3) (x21.2.2.2.map cI) :: SNh 168 4 nT168 h0_1 h0_2 (a0.1) a1.2.1.toNat [.map (some (mv (cv (gr h0_2 a1.2.1.toNat) 0))), .map (some (mv (cv (gr h0_2 a1.2.1.toNat) 1))), (cv (gr h0_2 a1.2.1.toNat) 2), (cv (gr h0_2 a1.2.1.toNat) 3)] :: Bx b4 106 [I a1.1, I a1.2.1, I a1.2.2.1, I a1.2.2.2] :: Bx b3 162 [.pointer (some ⟨b0_, 0, none⟩)] :: Bx b0_ 165 [h0_1, I a0.2] :: L)) rfl hx22 rfl ?_
            obtain ⟨r38, hc39, hm⟩ := bind_some hm
            refine TO.callO kcallB_69_true rfl rfl rfl (fun _ st => C69 (a0 := (x21.1, x21.2.1)) (SNh.cel (Ent.at 3 rfl) hx22) (Ent.at 0 rfl) hc39 st) ?_
            rintro v40 _ ⟨_, rfl, rfl⟩
            refine TO.ghost (fun _ s => Sat.front 5 rfl s) ?_
            refine TO.ghost (fun _ s => Sat.front 5 rfl s) ?_
            refine TO.ghost (fun _ s => Sat.front 5 rfl s) ?_
            refine TO.ghost (fun _ s => Sat.front 5 rfl s) ?_
            refine TO.ghost (fun _ s => Sat.front 4 rfl s) ?_
            refine TO.ghost (L' := (SN 168 4 nT168 h0_1 h0_2 (a0.1) :: OwnP 217 2 v40 cTii (r38) :: Bx b4 106 [I a1.1, I a1.2.1, I a1.2.2.1, I a1.2.2.2] :: Bx b3 162 [.pointer (some ⟨b0_, 0, none⟩)] :: Bx b0_ 165 [h0_1, I a0.2] :: L)) (fun _ s => Sat.closeN0 (T := nT168) hx22 s) ?_
            refine TO.openP 1 rfl fun y42 hp43 => ?_
            replace hm := permK_spec hm y42 hp43
            refine TO.s rfl rfl rfl (StepS.assign rfl) ?_
            refine TO.code ?_
            refine TC.k ?_
            refine TC.k ?_
            refine TC.region ?_
            refine TO.s rfl rfl rfl (StepS.move rfl) ?_
            refine TO.s rfl rfl rfl (StepS.lenm rfl (OwnS.rd (Ent.at 1 rfl)) ksliceB_169_217_2_true rfl) ?_
            refine TO.s rfl rfl rfl (StepS.cmp rfl rfl rfl) ?_
            refine TO.code ?_
            refine TC.cond rfl (fun hc44 => ?_) (fun hc44 => ?_)
            · replace hm := cond_t hc44 hm
              refine TC.k ?_
              refine TC.region ?_
              refine TO.s rfl rfl rfl (StepS.assign rfl) ?_
              refine TO.code ?_
              cases hm
              refine TC.ret fun a w e s => ?_
              refine FRet.mk1 (P := Try.prog) (fn := Try.f68) (t := 4) e rfl rfl ?_
              refine ⟨_, _, rfl, ⟨(h0_2), rfl, rfl⟩, ?_⟩
              refine s.mono fun _ s => ?_
              replace s := Sat.front 0 rfl s
              replace s := Sat.front 4 rfl s
              replace s := Sat.erase 2 s
              replace s := Sat.erase 2 s
              replace s := Sat.erase 2 s
              exact s
            · replace hm := cond_f hc44 hm
              refine TC.skipk ?_
              refine TC.k ?_
              refine TC.region ?_
              refine TO.s rfl rfl rfl (StepS.move rfl) ?_
              refine TO.s rfl rfl rfl (StepS.lenm rfl (OwnS.rd (Ent.at 1 rfl)) ksliceB_169_217_2_true rfl) ?_
              refine TO.s rfl rfl rfl (StepS.move rfl) ?_
              refine TO.code ?_
              obtain ⟨o53, hw54, hm⟩ := bind_some hm
              refine TC.loop hw54 (fun (y45, x47) => fun a w => ∃ hs46 : List (List Value), Mid 139 B [(6, ptr h0_1 (a1.2.1.toNat * 4)), (88, v40), (89, I (y42.length : Int)), (90, I x47)] (SN 168 4 nT168 h0_1 hs46 (y45) :: OwnS 217 2 v40 (y42.map cTii) :: Bx b4 106 [I a1.1, I a1.2.1, I a1.2.2.1, I a1.2.2.2] :: Bx b3 162 [.pointer (some ⟨b0_, 0, none⟩)] :: Bx b0_ 165 [h0_1, I a0.2] :: L) a w) (fun y51 => fun a w => ∃ hs52 : List (List Value), Mid 139 B [] (SN 168 4 nT168 h0_1 hs52 (y51) :: OwnS 217 2 v40 (y42.map cTii) :: Bx b4 106 [I a1.1, I a1.2.1, I a1.2.2.1, I a1.2.2.2] :: Bx b3 162 [.pointer (some ⟨b0_, 0, none⟩)] :: Bx b0_ 165 [h0_1, I a0.2] :: L) a w) (fun (_ : Unit) _ _ => False) ?_ ?_ ?_ ?_
              · rintro ⟨y45, x47⟩ o53r hb55 a w ⟨hs46, he, hs⟩
                dsimp only [F68_L0] at hb55
                refine TC.use ?_ he hs
                refine TC.k ?_
                refine TC.region ?_
                refine TO.s rfl rfl rfl (StepS.cmp rfl rfl rfl) ?_
                refine TO.code ?_
                refine TC.k ?_
                refine TC.cond rfl (fun hc56 => ?_) (fun hc56 => ?_)
                · replace hb55 := cond_t hc56 hb55
                  refine TC.skipk ?_
                  refine TC.k ?_
                  refine TC.block ?_
                  refine TC.k ?_
                  refine TC.region ?_
                  obtain ⟨x57, hx58, hb55⟩ := bind_some hb55
                  refine TO.s rfl rfl rfl (StepS.idx rfl rfl (OwnS.rd (Ent.at 1 rfl)) ksliceB_169_217_2_true (idx_spec hx58).1 (idxm_lt hx58)) ?_
                  refine TO.s rfl rfl rfl (StepS.ldE rfl (OwnS.rd (Ent.at 1 rfl)) kaggB_217_2_true rfl (idxm hx58)) ?_
                  refine TO.alloc kinfo_217_bind_zero_some_agg_I_0_I_0 rfl rfl fun b59 => ?_
                  refine TO.stB (us := [I x57.1, I x57.2]) 0 [I x57.1, I x57.2] rfl rfl rfl ksizeB_217_2_true rfl rfl rfl (by simp [Value.oneCell']) rfl ?_
                  refine TO.code ?_
                  refine TC.region_tail 5 kfollows_mixedOrders_true (by kernel_rfl) ?_
                  refine TS.s rfl rfl rfl (StepS.move rfl) ?_
                  refine TS.s rfl rfl rfl (StepS.nilc rfl) ?_
                  refine TS.s rfl rfl rfl (StepS.ptrf rfl kfieldB_168_1_1_true) ?_
                  obtain ⟨x60, hx61, hb55⟩ := bind_some hb55
                  refine TS.s rfl rfl rfl (StepS.ldN (j := 1) rfl (Ent.at 1 rfl) kscalB_166_true hx61 rfl rfl) ?_
                  refine TS.s rfl rfl rfl (StepS.ldBA rfl (Ent.at 0 rfl) kaggB_217_2_true rfl rfl) ?_
                  refine TS.nil ?_
                  refine TO.at ?_
                  refine TO.ghost (fun _ s => Sat.front 1 rfl s) ?_
                  refine TO.openN (L' := (MF (fun k : Int × Int => .agg #[I k.1, I k.2]) (fun x : Bool => .bool x) (mv (cv (gr hs46 a1.2.1.toNat) 0)) (x60.1) :: MF (fun k : Int × Int => .agg #[I k.1, I k.2]) (fun x : Bool => .bool x) (mv (cv (gr hs46 a1.2.1.toNat) 1)) (x60.2.1) :: OwnS 3 1 (cv (gr hs46 a1.2.1.toNat) 2) (x60.2.2.1.map cI) :: OwnS 3 1 (cv (gr hs46 a1.2.1.toNat) 3) (x60.2.2.2.map cI) :: SNh 168 4 nT168 h0_1 hs46 (y45) a1.2.1.toNat [.map (some (mv (cv (gr hs46 a1.2.1.toNat) 0))), .map (some (mv (cv (gr hs46 a1.2.1.toNat) 1))), (cv (gr hs46 a1.2.1.toNat) 2), (cv (gr hs46 a1.2.1.toNat) 3)] :: Bx b59 217 [I x57.1, I x57.2] :: OwnS 217 2 v40 (y42.map cTii) :: Bx b4 106 [I a1.1, I a1.2.1, I a1.2.2.1, I a1.2.2.2] :: Bx b3 162 [.pointer (some ⟨b0_, 0, none⟩)] :: Bx b0_ 165 [h0_1, I a0.2] :: L)) rfl hx61 rfl ?_
                  refine TO.msetF (k := (x57.1, x57.2)) (v := true) 1 kmapGB_166_217_4_true (KeyOk.tagOf ktagB_217_3_true kunderlying_3_some_int_i64 ksizeB_3_1_true kscalB_3_true kstoodInHeld_217_false) rfl rfl rfl rfl ?_
                  refine TO.ghost (fun _ s => Sat.front 4 rfl s) ?_
                  refine TO.ghost (fun _ s => Sat.front 4 rfl s) ?_
                  refine TO.ghost (fun _ s => Sat.front 4 rfl s) ?_
                  refine TO.ghost (fun _ s => Sat.front 4 rfl s) ?_
                  refine TO.ghost (fun _ s => Sat.front 4 rfl s) ?_
                  obtain ⟨y69, hy70, hb55⟩ := bind_some hb55
                  refine TO.closeN (T := nT168) (cs := [.map (some (mv (cv (gr hs46 a1.2.1.toNat) 0))), .map (some (mv (cv (gr hs46 a1.2.1.toNat) 1))), (cv (gr hs46 a1.2.1.toNat) 2), (cv (gr hs46 a1.2.1.toNat) 3)]) [.map (some (mv (cv (gr hs46 a1.2.1.toNat) 0))), .map (some (mv (cv (gr hs46 a1.2.1.toNat) 1))), (cv (gr hs46 a1.2.1.toNat) 2), (cv (gr hs46 a1.2.1.toNat) 3)] (x60.1, mupd x60.2.1 (x57.1, x57.2) true, x60.2.2.1, x60.2.2.2) rfl rfl hx61 (Option.some.inj hy70) fun hs68 => ?_
                  refine TO.code ?_
                  refine TC.region ?_
                  refine TO.s rfl rfl rfl (StepS.ari rfl rfl rfl) ?_
                  refine TO.s rfl rfl rfl (StepS.move rfl) ?_
                  cases hb55
                  refine TO.nil fun a w e s => ?_
                  exact ⟨hs68, e.sub (lk_of_allIn ⟨rfl, rfl, rfl, rfl, trivial⟩), s.mono fun _ s => (by exact Sat.by [5, 5, 5, 5, 4] 5 1 (by kernel_rfl) s)⟩
                · replace hb55 := cond_f hc56 hb55
                  cases hb55
                  refine TC.exit rfl fun a w e s => ?_
                  exact ⟨hs46, e.sub (lk_of_allIn trivial), s⟩
              · exact fun a w e s => ⟨h0_2, e.sub (lk_of_allIn ⟨rfl, rfl, rfl, rfl, trivial⟩), s⟩
              · rintro y51 rfl a w ⟨hs52, he, hs⟩
                dsimp only [Ctl.on] at hm
                refine TC.use ?_ he hs
                refine TC.k ?_
                refine TC.region ?_
                refine TO.s rfl rfl rfl (StepS.assign rfl) ?_
                refine TO.code ?_
                cases hm
                refine TC.ret fun a w e s => ?_
                refine FRet.mk1 (P := Try.prog) (fn := Try.f68) (t := 4) e rfl rfl ?_
                refine ⟨_, _, rfl, ⟨(hs52), rfl, rfl⟩, ?_⟩
                refine s.mono fun _ s => ?_
                replace s := Sat.front 0 rfl s
                replace s := Sat.front 4 rfl s
                replace s := Sat.erase 2 s
                replace s := Sat.erase 2 s
                replace s := Sat.erase 2 s
                exact s
              · rintro r rfl
                exact fun a w h => h.elim
          · replace hm := cond_f hc33 hm
            refine TC.k ?_
            refine TC.region ?_
            refine TO.s rfl rfl rfl (StepS.cmp rfl rfl rfl) ?_
            refine TO.s rfl rfl rfl (StepS.assign rfl) ?_
            refine TO.code ?_
            refine TC.cond rfl (fun hc71 => ?_) (fun hc71 => ?_)
            · replace hm := cond_t hc71 hm
              refine TC.k ?_
              refine TC.region ?_
              refine TO.s rfl rfl rfl (StepS.fld rfl kfieldB_106_3_3_true) ?_
              refine TO.s rfl rfl rfl (StepS.ldB rfl (Ent.at 0 rfl) kscalB_3_true rfl) ?_
              refine TO.code ?_
              refine TC.block ?_
              refine TC.k ?_
              refine TC.region ?_
              refine TO.s rfl rfl rfl (StepS.cmp rfl rfl rfl) ?_
              refine TO.s rfl rfl rfl (StepS.assign rfl) ?_
              refine TO.code ?_
              refine TC.cond rfl (fun hc72 => ?_) (fun hc72 => ?_)
              · replace hm := cond_t hc72 hm
                refine TC.region_tail 10 kfollows_mixedOrders_true (by kernel_rfl) ?_
                refine TS.s rfl rfl rfl (StepS.move rfl) ?_
                refine TS.s rfl rfl rfl (StepS.nilc rfl) ?_
                refine TS.s rfl rfl rfl (StepS.ptrf rfl kfieldB_168_2_2_true) ?_
                refine TS.s rfl rfl rfl (StepS.ldN (j := 2) rfl (Ent.at 3 rfl) kscalB_22_true hx22 rfl rfl) ?_
                refine TS.s rfl rfl rfl (StepS.fld rfl kfieldB_106_1_1_true) ?_
                refine TS.s rfl rfl rfl (StepS.ldB rfl (Ent.at 0 rfl) kscalB_3_true rfl) ?_
                obtain ⟨x75, hx76, hm⟩ := bind_some hm
                refine TS.s rfl rfl rfl (StepS.idx rfl rfl (OwnS.rd (SN.piece (Ent.at 3 rfl) hx22 2 rfl)) ksliceB_22_3_1_true (idx_spec hx76).1 (idxm_lt hx76)) ?_
                refine TS.s rfl rfl rfl (StepS.ld0 rfl (OwnS.rd (SN.piece (Ent.at 3 rfl) hx22 2 rfl)) kscalB_3_true rfl (idxm hx76) rfl) ?_
                refine TS.s rfl rfl rfl (StepS.ari rfl rfl rfl) ?_
                obtain ⟨x77, hx78, hm⟩ := bind_some hm
                refine TS.s rfl rfl rfl (StepS.idx rfl rfl (OwnS.rd (SN.piece (Ent.at 3 rfl) hx22 2 rfl)) ksliceB_22_3_1_true (idx_spec hx78).1 (idxm_lt hx78)) ?_
                refine TS.nil ?_
                refine TO.at ?_
                refine TO.ghost (fun _ s => Sat.front 3 rfl s) ?_
                refine TO.openN (L' := (MF (fun k : Int × Int => .agg #[I k.1, I k.2]) (fun x : Bool => .bool x) (mv (cv (gr h0_2 a1.2.1.toNat) 0)) (x21.1) :: MF (fun k : Int × Int => .agg #[I k.1, I k.2]) (fun x : Bool => .bool x) (mv (cv (gr h0_2 a1.2.1.toNat) 1)) (x21.2.1) :: OwnS 3 1 (cv (gr h0_2 a1.2.1.toNat) 2) (x21.2.2.1.map cI) :: OwnS 3 1 (cv (gr h0_2 a1.2.1.toNat) 3) (x21.2.2.2.map cI) :: SNh 168 4 nT168 h0_1 h0_2 (a0.1) a1.2.1.toNat [.map (some (mv (cv (gr h0_2 a1.2.1.toNat) 0))), .map (some (mv (cv (gr h0_2 a1.2.1.toNat) 1))), (cv (gr h0_2 a1.2.1.toNat) 2), (cv (gr h0_2 a1.2.1.toNat) 3)] :: Bx b4 106 [I a1.1, I a1.2.1, I a1.2.2.1, I a1.2.2.2] :: Bx b3 162 [.pointer (some ⟨b0_, 0, none⟩)] :: Bx b0_ 165 [h0_1, I a0.2] :: L)) rfl hx22 rfl ?_
                refine TO.stO (i := a1.2.1.toNat) (off := 0) (us := [I (w64 (x75 + 1))]) 2 (w64 (x75 + 1)) rfl rfl rfl ksizeB_3_1_true rfl rfl rfl (idx_spec hx78).2 rfl (by simp [Value.oneCell']) rfl ?_
                refine TO.ghost (fun _ s => Sat.front 4 rfl s) ?_
                refine TO.ghost (fun _ s => Sat.front 4 rfl s) ?_
                refine TO.ghost (fun _ s => Sat.front 4 rfl s) ?_
                refine TO.ghost (fun _ s => Sat.front 4 rfl s) ?_
                refine TO.ghost (fun _ s => Sat.front 4 rfl s) ?_
                obtain ⟨y84, hy85, hm⟩ := bind_some hm
                refine TO.closeN (T := nT168) (cs := [.map (some (mv (cv (gr h0_2 a1.2.1.toNat) 0))), .map (some (mv (cv (gr h0_2 a1.2.1.toNat) 1))), (cv (gr h0_2 a1.2.1.toNat) 2), (cv (gr h0_2 a1.2.1.toNat) 3)]) [.map (some (mv (cv (gr h0_2 a1.2.1.toNat) 0))), .map (some (mv (cv (gr h0_2 a1.2.1.toNat) 1))), (cv (gr h0_2 a1.2.1.toNat) 2), (cv (gr h0_2 a1.2.1.toNat) 3)] (x21.1, x21.2.1, x21.2.2.1.set a1.2.1.toNat (w64 (x75 + 1)), x21.2.2.2) rfl rfl hx22 (Option.some.inj hy85) fun hs83 => ?_
                refine TO.code ?_
                refine TC.k ?_
                refine TC.region ?_
                refine TO.s rfl rfl rfl (StepS.assign rfl) ?_
                refine TO.code ?_
                cases hm
                refine TC.ret fun a w e s => ?_
                refine FRet.mk1 (P := Try.prog) (fn := Try.f68) (t := 4) e rfl rfl ?_
                refine ⟨_, _, rfl, ⟨(hs83), rfl, rfl⟩, ?_⟩
                refine s.mono fun _ s => ?_
                replace s := Sat.front 0 rfl s
                replace s := Sat.front 3 rfl s
                replace s := Sat.erase 2 s
                replace s := Sat.erase 2 s
                exact s
              · replace hm := cond_f hc72 hm
                refine TC.k ?_
                refine TC.region ?_
                refine TO.s rfl rfl rfl (StepS.cmp rfl rfl rfl) ?_
                refine TO.s rfl rfl rfl (StepS.assign rfl) ?_
                refine TO.code ?_
                refine TC.cond rfl (fun hc86 => ?_) (fun hc86 => ?_)
                · replace hm := cond_t hc86 hm
                  refine TC.region_tail 10 kfollows_mixedOrders_true (by kernel_rfl) ?_
                  refine TS.s rfl rfl rfl (StepS.move rfl) ?_
                  refine TS.s rfl rfl rfl (StepS.nilc rfl) ?_
                  refine TS.s rfl rfl rfl (StepS.ptrf rfl kfieldB_168_3_3_true) ?_
                  refine TS.s rfl rfl rfl (StepS.ldN (j := 3) rfl (Ent.at 3 rfl) kscalB_22_true hx22 rfl rfl) ?_
                  refine TS.s rfl rfl rfl (StepS.fld rfl kfieldB_106_1_1_true) ?_
                  refine TS.s rfl rfl rfl (StepS.ldB rfl (Ent.at 0 rfl) kscalB_3_true rfl) ?_
                  obtain ⟨x89, hx90, hm⟩ := bind_some hm
                  refine TS.s rfl rfl rfl (StepS.idx rfl rfl (OwnS.rd (SN.piece (Ent.at 3 rfl) hx22 3 rfl)) ksliceB_22_3_1_true (idx_spec hx90).1 (idxm_lt hx90)) ?_
                  refine TS.s rfl rfl rfl (StepS.ld0 rfl (OwnS.rd (SN.piece (Ent.at 3 rfl) hx22 3 rfl)) kscalB_3_true rfl (idxm hx90) rfl) ?_
                  refine TS.s rfl rfl rfl (StepS.ari rfl rfl rfl) ?_
                  obtain ⟨x91, hx92, hm⟩ := bind_some hm
                  refine TS.s rfl rfl rfl (StepS.idx rfl rfl (OwnS.rd (SN.piece (Ent.at 3 rfl) hx22 3 rfl)) ksliceB_22_3_1_true (idx_spec hx92).1 (idxm_lt hx92)) ?_
                  refine TS.nil ?_
                  refine TO.at ?_
                  refine TO.ghost (fun _ s => Sat.front 3 rfl s) ?_
                  refine TO.openN (L' := (MF (fun k : Int × Int => .agg #[I k.1, I k.2]) (fun x : Bool => .bool x) (mv (cv (gr h0_2 a1.2.1.toNat) 0)) (x21.1) :: MF (fun k : Int × Int => .agg #[I k.1, I k.2]) (fun x : Bool => .bool x) (mv (cv (gr h0_2 a1.2.1.toNat) 1)) (x21.2.1) :: OwnS 3 1 (cv (gr h0_2 a1.2.1.toNat) 2) (x21.2.2.1.map cI) :: OwnS 3 1 (cv (gr h0_2 a1.2.1.toNat) 3) (x21.2.2.2.map cI) :: SNh 168 4 nT168 h0_1 h0_2 (a0.1) a1.2.1.toNat [.map (some (mv (cv (gr h0_2 a1.2.1.toNat) 0))), .map (some (mv (cv (gr h0_2 a1.2.1.toNat) 1))), (cv (gr h0_2 a1.2.1.toNat) 2), (cv (gr h0_2 a1.2.1.toNat) 3)] :: Bx b4 106 [I a1.1, I a1.2.1, I a1.2.2.1, I a1.2.2.2] :: Bx b3 162 [.pointer (some ⟨b0_, 0, none⟩)] :: Bx b0_ 165 [h0_1, I a0.2] :: L)) rfl hx22 rfl ?_
                  refine TO.stO (i := a1.2.1.toNat) (off := 0) (us := [I (w64 (x89 + 1))]) 3 (w64 (x89 + 1)) rfl rfl rfl ksizeB_3_1_true rfl rfl rfl (idx_spec hx92).2 rfl (by simp [Value.oneCell']) rfl ?_
                  refine TO.ghost (fun _ s => Sat.front 4 rfl s) ?_
                  refine TO.ghost (fun _ s => Sat.front 4 rfl s) ?_
                  refine TO.ghost (fun _ s => Sat.front 4 rfl s) ?_
                  refine TO.ghost (fun _ s => Sat.front 4 rfl s) ?_
                  refine TO.ghost (fun _ s => Sat.front 4 rfl s) ?_
                  obtain ⟨y98, hy99, hm⟩ := bind_some hm
                  refine TO.closeN (T := nT168) (cs := [.map (some (mv (cv (gr h0_2 a1.2.1.toNat) 0))), .map (some (mv (cv (gr h0_2 a1.2.1.toNat) 1))), (cv (gr h0_2 a1.2.1.toNat) 2), (cv (gr h0_2 a1.2.1.toNat) 3)]) [.map (some (mv (cv (gr h0_2 a1.2.1.toNat) 0))), .map (some (mv (cv (gr h0_2 a1.2.1.toNat) 1))), (cv (gr h0_2 a1.2.1.toNat) 2), (cv (gr h0_2 a1.2.1.toNat) 3)] (x21.1, x21.2.1, x21.2.2.1, x21.2.2.2.set a1.2.1.toNat (w64 (x89 + 1))) rfl rfl hx22 (Option.some.inj hy99) fun hs97 => ?_
                  refine TO.code ?_
                  refine TC.k ?_
                  refine TC.region ?_
                  refine TO.s rfl rfl rfl (StepS.assign rfl) ?_
                  refine TO.code ?_
                  cases hm
                  refine TC.ret fun a w e s => ?_
                  refine FRet.mk1 (P := Try.prog) (fn := Try.f68) (t := 4) e rfl rfl ?_
                  refine ⟨_, _, rfl, ⟨(hs97), rfl, rfl⟩, ?_⟩
                  refine s.mono fun _ s => ?_
                  replace s := Sat.front 0 rfl s
                  replace s := Sat.front 3 rfl s
                  replace s := Sat.erase 2 s
                  replace s := Sat.erase 2 s
                  exact s
                · replace hm := cond_f hc86 hm
                  refine TC.k ?_
                  refine TC.region ?_
                  refine TO.s rfl rfl rfl (StepS.assign rfl) ?_
                  refine TO.code ?_
                  cases hm
                  refine TC.ret fun a w e s => ?_
                  refine FRet.mk1 (P := Try.prog) (fn := Try.f68) (t := 4) e rfl rfl ?_
                  refine ⟨_, _, rfl, ⟨(h0_2), rfl, rfl⟩, ?_⟩
                  refine s.mono fun _ s => ?_
                  replace s := Sat.front 3 rfl s
                  replace s := Sat.front 3 rfl s
                  replace s := Sat.erase 2 s
                  replace s := Sat.erase 2 s
                  exact s
            · replace hm := cond_f hc71 hm
              refine TC.k ?_
              refine TC.region ?_
              refine TO.s rfl rfl rfl (StepS.cmp rfl rfl rfl) ?_
              refine TO.s rfl rfl rfl (StepS.assign rfl) ?_
              refine TO.code ?_
              obtain ⟨y100, hj102, hm⟩ := bind_some hm
              first | refine TC.cutM (fun a w => ∃ hs101 : List (List Value), Mid 139 B [] (Bx b4 106 [I a1.1, I a1.2.1, I a1.2.2.1, I a1.2.2.2] :: Bx b3 162 [.pointer (some ⟨b0_, 0, none⟩)] :: Bx b0_ 165 [h0_1, I a0.2] :: SN 168 4 nT168 h0_1 hs101 (y100) :: L) a w) ?_ ?_ | refine TC.cutX (fun a w => ∃ hs101 : List (List Value), Mid 139 B [] (Bx b4 106 [I a1.1, I a1.2.1, I a1.2.2.1, I a1.2.2.2] :: Bx b3 162 [.pointer (some ⟨b0_, 0, none⟩)] :: Bx b0_ 165 [h0_1, I a0.2] :: SN 168 4 nT168 h0_1 hs101 (y100) :: L) a w) ?_ ?_
              · refine TC.cond rfl (fun hc103 => ?_) (fun hc103 => ?_)
                · replace hj102 := cond_t hc103 hj102
                  refine TC.region_tail 8 kfollows_mixedOrders_true (by kernel_rfl) ?_
                  refine TS.s rfl rfl rfl (StepS.move rfl) ?_
                  refine TS.s rfl rfl rfl (StepS.ldB rfl (Ent.at 1 rfl) kscalB_162_true rfl) ?_
                  refine TS.s rfl rfl rfl (StepS.nilc rfl) ?_
                  refine TS.s rfl rfl rfl (StepS.fld rfl kfieldB_165_0_0_true) ?_
                  refine TS.s rfl rfl rfl (StepS.ldB rfl (Ent.at 2 rfl) kscalB_163_true rfl) ?_
                  refine TS.s rfl rfl rfl (StepS.fld rfl kfieldB_106_2_2_true) ?_
                  refine TS.s rfl rfl rfl (StepS.ldB rfl (Ent.at 0 rfl) kscalB_3_true rfl) ?_
                  obtain ⟨x104, hx105, hj102⟩ := bind_some hj102
                  refine TS.s rfl rfl rfl (StepS.idxN rfl rfl (Ent.at 3 rfl) ksliceB_163_168_4_true hx105) ?_
                  refine TS.nil ?_
                  refine TO.at ?_
                  refine bcase (decide (a1.2.1 = a1.2.2.1)) (fun hb106 => ?_) (fun hb106 => ?_)
                  · replace hj102 := cond_t hb106 hj102
                    refine TO.ghost (fun _ s => Sat.front 3 rfl s) ?_
                    refine TO.openN (L' := (MF (fun k : Int × Int => .agg #[I k.1, I k.2]) (fun x : Bool => .bool x) (mv (cv (gr h0_2 a1.2.1.toNat) 0)) (x21.1) :: MF (fun k : Int × Int => .agg #[I k.1, I k.2]) (fun x : Bool => .bool x) (mv (cv (gr h0_2 a1.2.1.toNat) 1)) (x21.2.1) :: OwnS 3 1 (cv (gr h0_2 a1.2.1.toNat) 2) (x21.2.2.1.map cI) :: OwnS 3 1 (cv (gr h0_2 a1.2.1.toNat) 3) (x21.2.2.2.map cI) :: SNh 168 4 nT168 h0_1 h0_2 (a0.1) a1.2.1.toNat [.map (some (mv (cv (gr h0_2 a1.2.1.toNat) 0))), .map (some (mv (cv (gr h0_2 a1.2.1.toNat) 1))), (cv (gr h0_2 a1.2.1.toNat) 2), (cv (gr h0_2 a1.2.1.toNat) 3)] :: Bx b4 106 [I a1.1, I a1.2.1, I a1.2.2.1, I a1.2.2.2] :: Bx b3 162 [.pointer (some ⟨b0_, 0, none⟩)] :: Bx b0_ 165 [h0_1, I a0.2] :: L)) rfl hx22 rfl ?_
                    refine TO.ghost (fun _ s => Sat.front 3 rfl s) ?_
                    refine TO.ghost (fun _ s => Sat.front 3 rfl s) ?_
                    refine TO.ghost (fun _ s => Sat.front 3 rfl s) ?_
                    refine TO.ghost (fun _ s => Sat.front 3 rfl s) ?_
                    obtain ⟨r111, hc112, hj102⟩ := bind_some hj102
                    refine TO.callO kcallB_102_true rfl rfl rfl (fun _ st => calls_same (congrArg (fun z : Int => ptr h0_1 (z.toNat * 4)) (of_decide_eq_true hb106)) (C102s (a0 := (x21.1, x21.2.1, x21.2.2.1, x21.2.2.2)) (SNh.cel (Ent.at 0 rfl) hx22) hc112 st)) ?_
                    rintro _ _ ⟨rfl, rfl⟩
                    refine TO.ghost (fun _ s => Sat.front 4 rfl s) ?_
                    refine TO.ghost (fun _ s => Sat.front 4 rfl s) ?_
                    refine TO.ghost (fun _ s => Sat.front 4 rfl s) ?_
                    refine TO.ghost (fun _ s => Sat.front 4 rfl s) ?_
                    refine TO.ghost (fun _ s => Sat.front 4 rfl s) ?_
                    obtain ⟨y122, hy123, hj102⟩ := bind_some hj102
                    refine TO.closeN (T := nT168) (cs := [.map (some (mv (cv (gr h0_2 a1.2.1.toNat) 0))), .map (some (mv (cv (gr h0_2 a1.2.1.toNat) 1))), (cv (gr h0_2 a1.2.1.toNat) 2), (cv (gr h0_2 a1.2.1.toNat) 3)]) [.map (some (mv (cv (gr h0_2 a1.2.1.toNat) 0))), .map (some (mv (cv (gr h0_2 a1.2.1.toNat) 1))), (cv (gr h0_2 a1.2.1.toNat) 2), (cv (gr h0_2 a1.2.1.toNat) 3)] (r111.1, r111.2.1, r111.2.2.1, r111.2.2.2) rfl rfl hx22 (Option.some.inj hy123) fun hs121 => ?_
                    cases hj102
                    refine TO.nil fun a w e s => ?_
                    exact ⟨hs121, e.sub (lk_of_allIn trivial), s.mono fun _ s => (by exact Sat.by [0, 3, 3, 3] 4 0 (by kernel_rfl) s)⟩
                  · replace hj102 := cond_f hb106 hj102
                    refine TO.ghost (fun _ s => Sat.front 3 rfl s) ?_
                    refine TO.ghost (L' := (MF (fun k : Int × Int => .agg #[I k.1, I k.2]) (fun x : Bool => .bool x) (mv (cv (gr h0_2 a1.2.1.toNat) 0)) (x21.1) :: MF (fun k : Int × Int => .agg #[I k.1, I k.2]) (fun x : Bool => .bool x) (mv (cv (gr h0_2 a1.2.1.toNat) 1)) (x21.2.1) :: OwnS 3 1 (cv (gr h0_2 a1.2.1.toNat) 2) (x21.2.2.1.map cI) :: OwnS 3 1 (cv (gr h0_2 a1.2.1.toNat) 3) (x21.2.2.2.map cI) :: MF (fun k : Int × Int => .agg #[I k.1, I k.2]) (fun x : Bool => .bool x) (mv (cv (gr h0_2 a1.2.2.1.toNat) 0)) (x104.1) :: MF (fun k : Int × Int => .agg #[I k.1, I k.2]) (fun x : Bool => .bool x) (mv (cv (gr h0_2 a1.2.2.1.toNat) 1)) (x104.2.1) :: OwnS 3 1 (cv (gr h0_2 a1.2.2.1.toNat) 2) (x104.2.2.1.map cI) :: OwnS 3 1 (cv (gr h0_2 a1.2.2.1.toNat) 3) (x104.2.2.2.map cI) :: SNhh 168 4 nT168 h0_1 h0_2 (a0.1) a1.2.1.toNat a1.2.2.1.toNat :: Bx b4 106 [I a1.1, I a1.2.1, I a1.2.2.1, I a1.2.2.2] :: Bx b3 162 [.pointer (some ⟨b0_, 0, none⟩)] :: Bx b0_ 165 [h0_1, I a0.2] :: L)) (fun _ s => Sat.open2 (T := nT168) hx22 hx105 (of_decide_eq_false hb106) s) ?_
                    refine TO.ghost (fun _ s => Sat.front 5 rfl s) ?_
                    refine TO.ghost (fun _ s => Sat.front 5 rfl s) ?_
                    refine TO.ghost (fun _ s => Sat.front 5 rfl s) ?_
                    refine TO.ghost (fun _ s => Sat.front 5 rfl s) ?_
                    refine TO.ghost (fun _ s => Sat.front 5 rfl s) ?_
                    refine TO.ghost (fun _ s => Sat.front 5 rfl s) ?_
                    obtain ⟨r133, hc134, hj102⟩ := bind_some hj102
                    refine TO.callO kcallB_102_true rfl rfl rfl (fun _ st => C102 (a0 := (x21.1, x21.2.1, x21.2.2.1, x21.2.2.2)) (a1 := (x104.1, x104.2.1, x104.2.2.1, x104.2.2.2)) (SNhh.cel (e := 168) (sz := 4) (T := nT168) (v := h0_1) (gs := h0_2) (xs := a0.1) (Ent.at 2 rfl) hx22) (SNhh.cel (e := 168) (sz := 4) (T := nT168) (v := h0_1) (gs := h0_2) (xs := a0.1) (Ent.at 2 rfl) hx105) (OwnS.rd (Ent.at 0 rfl)) (OwnS.rd (Ent.at 1 rfl)) hc134 st) ?_
                    rintro _ _ ⟨rfl, rfl⟩
                    refine TO.ghost (fun _ s => Sat.front 8 rfl s) ?_
                    refine TO.ghost (fun _ s => Sat.front 8 rfl s) ?_
                    refine TO.ghost (fun _ s => Sat.front 8 rfl s) ?_
                    refine TO.ghost (fun _ s => Sat.front 8 rfl s) ?_
                    refine TO.ghost (fun _ s => Sat.front 8 rfl s) ?_
                    refine TO.ghost (fun _ s => Sat.front 8 rfl s) ?_
                    refine TO.ghost (fun _ s => Sat.front 8 rfl s) ?_
                    refine TO.ghost (fun _ s => Sat.front 8 rfl s) ?_
                    refine TO.ghost (fun _ s => Sat.front 8 rfl s) ?_
                    obtain ⟨y143, hy144, hj102⟩ := bind_some hj102
                    refine TO.ghost (L' := (SN 168 4 nT168 h0_1 h0_2 (y143) :: Bx b4 106 [I a1.1, I a1.2.1, I a1.2.2.1, I a1.2.2.2] :: Bx b3 162 [.pointer (some ⟨b0_, 0, none⟩)] :: Bx b0_ 165 [h0_1, I a0.2] :: L)) (fun _ s => by have q := Sat.close2 (T := nT168) (r133.1, r133.2.1, r133.2.2.1, r133.2.2.2) hx22 hx105 (of_decide_eq_false hb106) rfl s; rw [Option.some.inj hy144] at q; exact q) ?_
                    cases hj102
                    refine TO.nil fun a w e s => ?_
                    exact ⟨h0_2, e.sub (lk_of_allIn trivial), s.mono fun _ s => (by exact Sat.by [0, 3, 3, 3] 4 0 (by kernel_rfl) s)⟩
                · replace hj102 := cond_f hc103 hj102
                  cases hj102
                  refine TC.skip fun a w e s => ?_
                  exact ⟨h0_2, e.sub (lk_of_allIn trivial), s⟩
              · intro a w ⟨hs101, he, hs⟩
                refine TC.use ?_ he hs
                refine TC.k ?_
                refine TC.region ?_
                refine TO.s rfl rfl rfl (StepS.assign rfl) ?_
                refine TO.code ?_
                cases hm
                refine TC.ret fun a w e s => ?_
                refine FRet.mk1 (P := Try.prog) (fn := Try.f68) (t := 4) e rfl rfl ?_
                refine ⟨_, _, rfl, ⟨(hs101), rfl, rfl⟩, ?_⟩
                refine s.mono fun _ s => ?_
                replace s := Sat.front 3 rfl s
                replace s := Sat.front 3 rfl s
                replace s := Sat.erase 2 s
                replace s := Sat.erase 2 s
                exact s

set_option maxRecDepth 100000 in
theorem C70 {B : World} {L : List HP} {a0 : List Int} {h0 : Value} {r0 : List Int} (hm : F70 a0 = some r0) {w : World} (st : St B (OwnS 3 1 h0 (a0.map cI) :: L) w) : Calls Try.prog 70 #[h0] w (fun e w' => ∃ v M, e = .returned v ∧ (∃ (qv1 : Value), v = qv1 ∧ M = (OwnS 3 1 qv1 (r0.map cI) :: L)) ∧ St B M w') := by
  refine calls_of (N := 9) (L := (OwnS 3 1 h0 (a0.map cI) :: L)) (args := [h0]) Try.func70 rfl rfl rfl ?_ st
  dsimp only [F70] at hm
  refine TC.k ?_
  refine TC.region ?_
  refine TO.s rfl rfl rfl (StepS.assign rfl) ?_
  refine TO.code ?_
  refine TC.k ?_
  refine TC.region ?_
  refine TO.s rfl rfl rfl (StepS.move rfl) ?_
  refine TO.s rfl rfl rfl (StepS.move rfl) ?_
  refine TO.s rfl rfl rfl (StepS.lenm rfl (OwnS.rd (Ent.at 0 rfl)) ksliceB_22_3_1_true rfl) ?_
  refine TO.s rfl rfl rfl (StepS.move rfl) ?_
  refine TO.s rfl rfl rfl (StepS.lenm rfl (OwnS.rd (Ent.at 0 rfl)) ksliceB_22_3_1_true rfl) ?_
  obtain ⟨y3, hs4, hm⟩ := bind_some hm
  refine TO.s rfl rfl rfl (StepS.clip rfl (OwnS.rd (Ent.at 0 rfl)) ksliceB_22_3_1_true rfl rfl hs4) ?_
  refine TO.ghost (fun _ s => Sat.clipO 0 rfl hs4 s) ?_
  refine TO.s rfl rfl rfl (StepS.assign rfl) ?_
  refine TO.code ?_
  cases hm
  refine TC.ret fun a w e s => ?_
  refine FRet.mk1 (P := Try.prog) (fn := Try.f70) (t := 2) e rfl rfl ?_
  refine ⟨_, _, rfl, ⟨((clipv h0 (a0.length : Int))), rfl, rfl⟩, ?_⟩
  refine s.mono fun _ s => ?_
  replace s := Sat.front 0 rfl s
  exact s

set_option maxHeartbeats 1000000 in
set_option maxRecDepth 100000 in
theorem C36 {B : World} {L : List HP} {a0 : Int} {a1 : List (Int × Int × Int × Int)} {h1 : Value} {r0 : (List Int) × (List (List Int)) × List Int} {r1 : Int} (e1 : Ent L (Rd 4 h1 (a1.map cTiiii))) (hm : F36 a0 a1 = some (r0, r1)) {w : World} (st : St B L w) : Calls Try.prog 36 #[I a0, h1] w (fun e w' => ∃ v M, e = .returned v ∧ (∃ (qv1 : Value) (qv2 : Value) (qhs3 : List Value) (qv4 : Value), v = .tuple #[.agg #[qv1, qv2, qv4], I r1] ∧ M = (OwnS 28 1 qv1 (r0.1.map cI) :: SS 22 3 1 cI qv2 qhs3 (r0.2.1) :: OwnS 3 1 qv4 (r0.2.2.map cI) :: L)) ∧ St B M w') := by
  refine calls_of (N := 119) (L := L) (args := [I a0, h1]) Try.func36 rfl rfl rfl ?_ st
  dsimp only [F36] at hm
  refine TC.k ?_
  refine TC.region ?_
  refine TO.alloc kinfo_75_bind_zero_some_agg_slice_none_0_0_slice_none_0_0_slice_none_0_0 rfl rfl fun b4 => ?_
  refine TO.s rfl rfl rfl (StepS.assign rfl) ?_
  refine TO.code ?_
  refine TC.k ?_
  refine TC.k ?_
  refine TC.region ?_
  refine TO.s rfl rfl rfl (StepS.move rfl) ?_
  refine TO.s rfl rfl rfl (StepS.cmp rfl rfl rfl) ?_
  refine TO.s rfl rfl rfl (StepS.move rfl) ?_
  refine TO.mid1 3 21 (.bool ((decide (a0 < 1)) || (decide (a0 > 6)))) ?_ ?_
  · refine bcase ((decide (a0 < 1))) (fun hb5 => ?_) (fun hb5 => ?_)
    · refine TO.skip rfl rfl rfl (skipT hb5) rfl rfl ?_
      refine TO.skip rfl rfl rfl (skipT hb5) rfl rfl ?_
      refine TO.s rfl rfl rfl (StepS.pickT rfl hb5 rfl) ?_
      exact TO.up1 3 0 rfl rfl (by rw [hb5]; rfl) rfl
    · refine TO.sw rfl rfl rfl hb5 rfl rfl (StepS.move rfl) ?_
      refine TO.sw rfl rfl rfl hb5 rfl rfl (StepS.cmp rfl rfl rfl) ?_
      refine TO.s rfl rfl rfl (StepS.pickF rfl hb5 rfl) ?_
      exact TO.up1 3 0 rfl rfl (by rw [hb5]; rfl) rfl
  refine TO.s rfl rfl rfl (StepS.move rfl) ?_
  refine TO.mid1 4 26 (.bool (((decide (a0 < 1)) || (decide (a0 > 6))) || (decide ((a1.length : Int) > 60)))) ?_ ?_
  · refine bcase (((decide (a0 < 1)) || (decide (a0 > 6)))) (fun hb6 => ?_) (fun hb6 => ?_)
    · refine TO.skip rfl rfl rfl (skipT hb6) rfl rfl ?_
      refine TO.skip rfl rfl rfl (skipT hb6) rfl rfl ?_
      refine TO.skip rfl rfl rfl (skipT hb6) rfl rfl ?_
      refine TO.s rfl rfl rfl (StepS.pickT rfl hb6 rfl) ?_
      exact TO.up1 4 0 rfl rfl (by rw [hb6]; rfl) rfl
    · refine TO.sw rfl rfl rfl hb6 rfl rfl (StepS.move rfl) ?_
      refine TO.sw rfl rfl rfl hb6 rfl rfl (StepS.lenm rfl e1.tl ksliceB_23_106_4_true rfl) ?_
      refine TO.sw rfl rfl rfl hb6 rfl rfl (StepS.cmp rfl rfl rfl) ?_
      refine TO.s rfl rfl rfl (StepS.pickF rfl hb6 rfl) ?_
      exact TO.up1 4 0 rfl rfl (by rw [hb6]; rfl) rfl
  refine TO.code ?_
  refine TC.cond rfl (fun hc7 => ?_) (fun hc7 => ?_)
  · replace hm := cond_t hc7 hm
    refine TC.k ?_
    refine TC.region ?_
    refine TO.s rfl rfl rfl (StepS.build (cs := [.slice none 0 0, .slice none 0 0, .slice none 0 0]) rfl (by kernel_rfl)) ?_
    refine TO.stB (us := [.slice none 0 0, .slice none 0 0, .slice none 0 0]) 0 [.slice none 0 0, .slice none 0 0, .slice none 0 0] rfl rfl rfl ksizeB_75_3_true rfl rfl rfl (by simp [Value.oneCell']) rfl ?_
    refine TO.s rfl rfl rfl (StepS.assign rfl) ?_
    refine TO.code ?_
    cases hm
    refine TC.ret fun a w e s => ?_
    refine FRet.cell2 (P := Try.prog) (fn := Try.f36) e s rfl rfl rfl (Ent.at 0 rfl) kaggB_75_3_true rfl ?_
    refine ⟨_, _, rfl, ⟨(.slice none 0 0), (.slice none 0 0), ([]), (.slice none 0 0), rfl, rfl⟩, ?_⟩
    refine s.mono fun _ s => ?_
    replace s := Sat.nilS (e := 3) (sz := 1) (f := cI) s
    replace s := Sat.nilSS (e := 22) (ee := 3) (sz := 1) (f := cI) s
    replace s := Sat.nilS (e := 28) (sz := 1) (f := cI) s
    replace s := Sat.erase 3 s
    exact s
  · replace hm := cond_f hc7 hm
    refine TC.skipk ?_
    refine TC.k ?_
    refine TC.region ?_
    refine TO.s rfl rfl rfl (StepS.build (cs := [.slice none 0 0, I 0]) rfl (by kernel_rfl)) ?_
    refine TO.box (cs := [.slice none 0 0, I 0]) rfl rfl rfl fun b8 => ?_
    refine TO.s rfl rfl rfl (StepS.assign rfl) ?_
    refine TO.code ?_
    refine TC.k ?_
    refine TC.k ?_
    refine TC.region ?_
    refine TO.s rfl rfl rfl (StepS.move rfl) ?_
    refine TO.s rfl rfl rfl (StepS.move rfl) ?_
    refine TO.code ?_
    obtain ⟨o23, hw24, hm⟩ := bind_some hm
    refine TC.loop hw24 (fun (y12, x13) => fun a w => ∃ v9 : Value, ∃ hs10 : List (List Value), Mid 119 B [(0, I a0), (1, h1), (4, .pointer (some ⟨b4, 0, none⟩)), (6, .pointer (some ⟨b8, 0, none⟩)), (30, I a0), (31, I x13)] (SN 168 4 nT168 v9 hs10 (y12) :: Bx b8 165 [v9, I 0] :: Bx b4 75 [.slice none 0 0, .slice none 0 0, .slice none 0 0] :: L) a w) (fun y22 => fun a w => ∃ v19 : Value, ∃ hs20 : List (List Value), Mid 119 B [(0, I a0), (1, h1), (4, .pointer (some ⟨b4, 0, none⟩)), (6, .pointer (some ⟨b8, 0, none⟩))] (SN 168 4 nT168 v19 hs20 (y22) :: Bx b8 165 [v19, I 0] :: Bx b4 75 [.slice none 0 0, .slice none 0 0, .slice none 0 0] :: L) a w) (fun (_ : Unit) _ _ => False) ?_ ?_ ?_ ?_
    · rintro ⟨y12, x13⟩ o23r hb25 a w ⟨v9, hs10, he, hs⟩
      dsimp only [F36_L0] at hb25
      refine TC.use ?_ he hs
      refine TC.k ?_
      refine TC.region ?_
      refine TO.s rfl rfl rfl (StepS.cmp rfl rfl rfl) ?_
      refine TO.code ?_
      refine TC.k ?_
      refine TC.cond rfl (fun hc26 => ?_) (fun hc26 => ?_)
      · replace hb25 := cond_t hc26 hb25
        refine TC.skipk ?_
        refine TC.k ?_
        refine TC.block ?_
        obtain ⟨y28, hj31, hb25⟩ := bind_some hb25
        first | refine TC.cutM (fun a w => ∃ v29 : Value, ∃ hs30 : List (List Value), Mid 119 B [(0, I a0), (1, h1), (4, .pointer (some ⟨b4, 0, none⟩)), (6, .pointer (some ⟨b8, 0, none⟩)), (30, I a0), (31, I x13)] (SN 168 4 nT168 v29 hs30 (y28) :: Bx b8 165 [v29, I 0] :: Bx b4 75 [.slice none 0 0, .slice none 0 0, .slice none 0 0] :: L) a w) ?_ ?_ | refine TC.cutX (fun a w => ∃ v29 : Value, ∃ hs30 : List (List Value), Mid 119 B [(0, I a0), (1, h1), (4, .pointer (some ⟨b4, 0, none⟩)), (6, .pointer (some ⟨b8, 0, none⟩)), (30, I a0), (31, I x13)] (SN 168 4 nT168 v29 hs30 (y28) :: Bx b8 165 [v29, I 0] :: Bx b4 75 [.slice none 0 0, .slice none 0 0, .slice none 0 0] :: L) a w) ?_ ?_
        · obtain ⟨yq27_8_1, hkq27_8_2, hj31⟩ := bind_some hj31
          obtain ⟨yq27_10_1, hkq27_10_2, hj31⟩ := bind_some hj31
          obtain ⟨yq27_13_3, hkq27_13_4, hj31⟩ := bind_some hj31
          refine TC.region_any (Bx b8 165 [v9, I 0] :: Bx b4 75 [.slice none 0 0, .slice none 0 0, .slice none 0 0] :: L) 16 17 kfollows_mixedOrders_true rfl ?_
          refine TA.takeW 0 rfl rfl rfl rfl (StepS.move rfl) (by kernel_rfl) (by kernel_rfl) (by kernel_rfl) rfl (.inr (fun _ s => Sat.by [2, 2] 2 1 (by kernel_rfl) s)) ?_
          refine TA.takeW 1 rfl rfl rfl rfl (StepS.move rfl) (by kernel_rfl) (by kernel_rfl) (by kernel_rfl) rfl (.inr (fun _ s => Sat.by [2, 2] 2 1 (by kernel_rfl) s)) ?_
          refine TA.takeW 2 rfl rfl rfl rfl (StepS.nilc rfl) (by kernel_rfl) (by kernel_rfl) (by kernel_rfl) rfl (.inr (fun _ s => Sat.by [2, 2] 2 1 (by kernel_rfl) s)) ?_
          refine TA.takeW 3 rfl rfl rfl rfl (StepS.fld rfl kfieldB_165_0_0_true) (by kernel_rfl) (by kernel_rfl) (by kernel_rfl) rfl (.inr (fun _ s => Sat.by [2, 2] 2 1 (by kernel_rfl) s)) ?_
          refine TA.take 4 rfl rfl rfl rfl (StepS.ldB rfl (Ent.at 0 rfl) kscalB_163_true rfl) (by kernel_rfl) (by kernel_rfl) (by kernel_rfl) (by kernel_rfl) (by kernel_rfl) (fun _ s => Sat.by [2, 2] 2 1 (by kernel_rfl) s) ?_
          refine TA.takeW 7 rfl rfl rfl rfl (StepS.move rfl) (by kernel_rfl) (by kernel_rfl) (by kernel_rfl) rfl (.inr (fun _ s => Sat.by [2, 2] 2 1 (by kernel_rfl) s)) ?_
          refine TA.takeW 9 rfl rfl rfl rfl (StepS.move rfl) (by kernel_rfl) (by kernel_rfl) (by kernel_rfl) rfl (.inr (fun _ s => Sat.by [2, 2] 2 1 (by kernel_rfl) s)) ?_
          refine TA.lem (γ := Value × (List (List Value))) 0 #[true, true, true, true, true, true, true, true, true, true, true, true, true, true, true, true, true] (fun (vq27_13_5, hsq27_13_6) => [(0, I a0), (1, h1), (4, .pointer (some ⟨b4, 0, none⟩)), (6, .pointer (some ⟨b8, 0, none⟩)), (30, I a0), (31, I x13)]) (fun (vq27_13_5, hsq27_13_6) => (SN 168 4 nT168 vq27_13_5 hsq27_13_6 (yq27_13_3) :: Bx b8 165 [vq27_13_5, I 0] :: Bx b4 75 [.slice none 0 0, .slice none 0 0, .slice none 0 0] :: L)) ?_ fun hSq27_0 => ?_
          · rintro ⟨vq27_13_5, hsq27_13_6⟩
            cases hj31
            refine TA.nil (by kernel_rfl) fun a w e s => ?_
            exact ⟨vq27_13_5, hsq27_13_6, e.sub (lk_of_allIn ⟨rfl, rfl, rfl, rfl, rfl, rfl, trivial⟩), s⟩
          refine TA.lem (γ := Value × (List (List Value))) 1 #[true, true, true, true, true, true, true, true, true, true, true, true, true, true, true, true, false] (fun (vq27_13_5, hsq27_13_6) => [(0, I a0), (1, h1), (4, .pointer (some ⟨b4, 0, none⟩)), (6, .pointer (some ⟨b8, 0, none⟩)), (30, I a0), (31, I x13), (46, vq27_13_5), (48, .pointer (some ⟨b8, 0 + 0, none⟩))]) (fun (vq27_13_5, hsq27_13_6) => (SN 168 4 nT168 vq27_13_5 hsq27_13_6 (yq27_13_3) :: Bx b8 165 [v9, I 0] :: Bx b4 75 [.slice none 0 0, .slice none 0 0, .slice none 0 0] :: L)) ?_ fun hSq27_1 => ?_
          · rintro ⟨vq27_13_5, hsq27_13_6⟩
            refine TA.all1 (i := 16) (by kernel_rfl) ?_
            · refine TB.of rfl ?_
              refine TO.pure (fun _ s => Rd.one (SN.top (Ent.at 0 rfl)) s) fun ocq27_16_1 => ?_
              refine TO.stB (us := [vq27_13_5]) 1 [vq27_13_5, I 0] rfl rfl rfl ksizeB_163_1_true ocq27_16_1.2 rfl rfl (by intro u hu; simp only [List.mem_cons, List.not_mem_nil, or_false] at hu; rcases hu with rfl <;> first | exact ocq27_16_1.1 | rfl) rfl ?_
              refine TA.back (.inl (by kernel_rfl)) ?_
              refine TA.asL (L' := (SN 168 4 nT168 vq27_13_5 hsq27_13_6 (yq27_13_3) :: Bx b8 165 [vq27_13_5, I 0] :: Bx b4 75 [.slice none 0 0, .slice none 0 0, .slice none 0 0] :: L)) (listed' := #[true, true, true, true, true, true, true, true, true, true, true, true, true, true, true, true, true]) (by kernel_rfl) (by kernel_rfl) ?_
              exact TA.jump hSq27_0 (vq27_13_5, hsq27_13_6) rfl (by kernel_rfl) ⟨rfl, rfl, rfl, rfl, rfl, rfl, trivial⟩ (fun _ s => Sat.by [2, 2, 2] 3 0 (by kernel_rfl) s)
          refine TA.lem (γ := Value × Nat × Nat × Value × Value) 4 #[true, true, true, true, true, true, true, true, true, true, true, true, true, false, false, false, false] (fun (vq27_12_1, rq27_5_1, rq27_6_1, vq27_8_3, vq27_10_3) => [(0, I a0), (1, h1), (4, .pointer (some ⟨b4, 0, none⟩)), (6, .pointer (some ⟨b8, 0, none⟩)), (30, I a0), (31, I x13), (33, .pointer (some ⟨b8, 0, none⟩)), (37, v9), (45, vq27_12_1)]) (fun (vq27_12_1, rq27_5_1, rq27_6_1, vq27_8_3, vq27_10_3) => (OwnS 168 4 vq27_12_1 ([()].map (fun (_ : Unit) => [.map (some rq27_5_1), .map (some rq27_6_1), vq27_8_3, vq27_10_3])) :: MF (fun k : Int × Int => .agg #[I k.1, I k.2]) (fun x : Bool => .bool x) rq27_5_1 ((mzero : (Int × Int) → Option Bool)) :: MF (fun k : Int × Int => .agg #[I k.1, I k.2]) (fun x : Bool => .bool x) rq27_6_1 ((mzero : (Int × Int) → Option Bool)) :: OwnS 3 1 vq27_8_3 (yq27_8_1.map cI) :: OwnS 3 1 vq27_10_3 (yq27_10_1.map cI) :: SN 168 4 nT168 v9 hs10 (y12) :: Bx b8 165 [v9, I 0] :: Bx b4 75 [.slice none 0 0, .slice none 0 0, .slice none 0 0] :: L)) ?_ fun hSq27_2 => ?_
          · rintro ⟨vq27_12_1, rq27_5_1, rq27_6_1, vq27_8_3, vq27_10_3⟩
            refine TA.all1 (i := 13) (by kernel_rfl) ?_
            · refine TB.of rfl ?_
              refine TO.pure (fun _ s => Rd.one (OwnS.rd (Ent.at 3 rfl)) s) fun ocq27_13_1 => ?_
              refine TO.pure (fun _ s => Rd.one (OwnS.rd (Ent.at 4 rfl)) s) fun ocq27_13_2 => ?_
              refine TO.ghost (fun _ s => Sat.front 5 rfl s) ?_
              refine TO.ghost (fun _ s => Sat.front 5 rfl s) ?_
              refine TO.ghost (fun _ s => Sat.front 5 rfl s) ?_
              refine TO.ghost (fun _ s => Sat.front 5 rfl s) ?_
              refine TO.ghost (fun _ s => Sat.front 5 rfl s) ?_
              refine TO.appN (T := nT168) (z := ((mzero : (Int × Int) → Option Bool), (mzero : (Int × Int) → Option Bool), yq27_8_1, yq27_10_1)) [.map (some rq27_5_1), .map (some rq27_6_1), vq27_8_3, vq27_10_3] rfl kelemB_163_168_4_64_true (by decide) rfl rfl (OwnS.rd (Ent.at 0 rfl)) hkq27_13_4 (by intro u hu; have hu : u ∈ [.map (some rq27_5_1), .map (some rq27_6_1), vq27_8_3, vq27_10_3] := hu; simp only [List.mem_cons, List.not_mem_nil, or_false] at hu; rcases hu with rfl | rfl | rfl | rfl <;> first | rfl | exact ocq27_13_1.1 | exact ocq27_13_2.1) rfl rfl fun vq27_13_5 hsq27_13_6 => ?_
              refine TO.ghost (fun _ s => Sat.erase 1 s) ?_
              refine TA.back (.inr (fun _ s => Sat.by [2, 2] 2 1 (by kernel_rfl) s)) ?_
              refine TA.asL (L' := (SN 168 4 nT168 vq27_13_5 hsq27_13_6 (yq27_13_3) :: Bx b8 165 [v9, I 0] :: Bx b4 75 [.slice none 0 0, .slice none 0 0, .slice none 0 0] :: L)) (listed' := #[true, true, true, true, true, true, true, true, true, true, true, true, true, true, false, false, false]) (by kernel_rfl) (by kernel_rfl) ?_
              refine TA.takeW 14 rfl rfl rfl rfl (StepS.nilc rfl) (by kernel_rfl) (by kernel_rfl) (by kernel_rfl) rfl (.inr (fun _ s => Sat.by [2, 2] 2 1 (by kernel_rfl) s)) ?_
              refine TA.takeW 15 rfl rfl rfl rfl (StepS.fld rfl kfieldB_165_0_0_true) (by kernel_rfl) (by kernel_rfl) (by kernel_rfl) rfl (.inr (fun _ s => Sat.by [2, 2] 2 1 (by kernel_rfl) s)) ?_
              exact TA.jump hSq27_1 (vq27_13_5, hsq27_13_6) rfl (by kernel_rfl) ⟨rfl, rfl, rfl, rfl, rfl, rfl, rfl, rfl, trivial⟩ (fun _ s => Sat.by [2, 2, 2] 3 0 (by kernel_rfl) s)
          refine TA.lem (γ := Nat × Nat × Value × Value) 5 #[true, true, true, true, true, true, true, true, true, true, true, true, false, false, false, false, false] (fun (rq27_5_1, rq27_6_1, vq27_8_3, vq27_10_3) => [(0, I a0), (1, h1), (4, .pointer (some ⟨b4, 0, none⟩)), (6, .pointer (some ⟨b8, 0, none⟩)), (30, I a0), (31, I x13), (33, .pointer (some ⟨b8, 0, none⟩)), (37, v9), (44, .agg #[.map (some rq27_5_1), .map (some rq27_6_1), vq27_8_3, vq27_10_3])]) (fun (rq27_5_1, rq27_6_1, vq27_8_3, vq27_10_3) => (MF (fun k : Int × Int => .agg #[I k.1, I k.2]) (fun x : Bool => .bool x) rq27_5_1 ((mzero : (Int × Int) → Option Bool)) :: MF (fun k : Int × Int => .agg #[I k.1, I k.2]) (fun x : Bool => .bool x) rq27_6_1 ((mzero : (Int × Int) → Option Bool)) :: OwnS 3 1 vq27_8_3 (yq27_8_1.map cI) :: OwnS 3 1 vq27_10_3 (yq27_10_1.map cI) :: SN 168 4 nT168 v9 hs10 (y12) :: Bx b8 165 [v9, I 0] :: Bx b4 75 [.slice none 0 0, .slice none 0 0, .slice none 0 0] :: L)) ?_ fun hSq27_3 => ?_
          · rintro ⟨rq27_5_1, rq27_6_1, vq27_8_3, vq27_10_3⟩
            refine TA.all1 (i := 12) (by kernel_rfl) ?_
            · refine TB.of rfl ?_
              refine TO.litS (f := fun (_ : Unit) => [.map (some rq27_5_1), .map (some rq27_6_1), vq27_8_3, vq27_10_3]) [()] kelemB_163_168_4_64_true kinfo_168_bind_zero_some_agg_map_none_map_none_slice_none_0_0_slice_none_0_0 rfl rfl (fun _ => rfl) rfl rfl (by kernel_rfl) rfl fun vq27_12_1 => ?_
              refine TA.back (.inr (fun _ s => Sat.by [7, 7] 2 6 (by kernel_rfl) s)) ?_
              refine TA.asL (L' := (OwnS 168 4 vq27_12_1 ([()].map (fun (_ : Unit) => [.map (some rq27_5_1), .map (some rq27_6_1), vq27_8_3, vq27_10_3])) :: MF (fun k : Int × Int => .agg #[I k.1, I k.2]) (fun x : Bool => .bool x) rq27_5_1 ((mzero : (Int × Int) → Option Bool)) :: MF (fun k : Int × Int => .agg #[I k.1, I k.2]) (fun x : Bool => .bool x) rq27_6_1 ((mzero : (Int × Int) → Option Bool)) :: OwnS 3 1 vq27_8_3 (yq27_8_1.map cI) :: OwnS 3 1 vq27_10_3 (yq27_10_1.map cI) :: SN 168 4 nT168 v9 hs10 (y12) :: Bx b8 165 [v9, I 0] :: Bx b4 75 [.slice none 0 0, .slice none 0 0, .slice none 0 0] :: L)) (listed' := #[true, true, true, true, true, true, true, true, true, true, true, true, true, false, false, false, false]) (by kernel_rfl) (by kernel_rfl) ?_
              exact TA.jump hSq27_2 (vq27_12_1, rq27_5_1, rq27_6_1, vq27_8_3, vq27_10_3) rfl (by kernel_rfl) ⟨rfl, rfl, rfl, rfl, rfl, rfl, rfl, rfl, rfl, trivial⟩ (fun _ s => Sat.by [7, 7, 7, 7, 7, 7, 7, 7] 8 0 (by kernel_rfl) s)
          refine TA.lem (γ := Nat × Nat × Value × Value) 6 #[true, true, true, true, true, true, true, true, true, true, true, false, false, false, false, false, false] (fun (rq27_5_1, rq27_6_1, vq27_8_3, vq27_10_3) => [(0, I a0), (1, h1), (4, .pointer (some ⟨b4, 0, none⟩)), (6, .pointer (some ⟨b8, 0, none⟩)), (30, I a0), (31, I x13), (33, .pointer (some ⟨b8, 0, none⟩)), (37, v9), (38, .map (some rq27_5_1)), (39, .map (some rq27_6_1)), (41, vq27_8_3), (43, vq27_10_3)]) (fun (rq27_5_1, rq27_6_1, vq27_8_3, vq27_10_3) => (MF (fun k : Int × Int => .agg #[I k.1, I k.2]) (fun x : Bool => .bool x) rq27_5_1 ((mzero : (Int × Int) → Option Bool)) :: MF (fun k : Int × Int => .agg #[I k.1, I k.2]) (fun x : Bool => .bool x) rq27_6_1 ((mzero : (Int × Int) → Option Bool)) :: OwnS 3 1 vq27_8_3 (yq27_8_1.map cI) :: OwnS 3 1 vq27_10_3 (yq27_10_1.map cI) :: SN 168 4 nT168 v9 hs10 (y12) :: Bx b8 165 [v9, I 0] :: Bx b4 75 [.slice none 0 0, .slice none 0 0, .slice none 0 0] :: L)) ?_ fun hSq27_4 => ?_
          · rintro ⟨rq27_5_1, rq27_6_1, vq27_8_3, vq27_10_3⟩
            refine TA.all1 (i := 11) (by kernel_rfl) ?_
            · refine TB.of rfl ?_
              refine TO.pure (fun _ s => Rd.one (OwnS.rd (Ent.at 2 rfl)) s) fun ocq27_11_1 => ?_
              refine TO.pure (fun _ s => Rd.one (OwnS.rd (Ent.at 3 rfl)) s) fun ocq27_11_2 => ?_
              refine TO.s rfl rfl rfl (StepS.buildS (us := [(0, .map (some rq27_5_1)), (1, .map (some rq27_6_1)), (2, .agg #[vq27_8_3]), (3, .agg #[vq27_10_3])]) (cs := [.map (some rq27_5_1), .map (some rq27_6_1), vq27_8_3, vq27_10_3]) rfl (by simp only [List.map_cons, List.map_nil, ocq27_11_1.2, ocq27_11_2.2] <;> rfl) (by kernel_rfl)) ?_
              refine TA.back (.inr (fun _ s => Sat.by [6, 6] 2 5 (by kernel_rfl) s)) ?_
              refine TA.asL (L' := (MF (fun k : Int × Int => .agg #[I k.1, I k.2]) (fun x : Bool => .bool x) rq27_5_1 ((mzero : (Int × Int) → Option Bool)) :: MF (fun k : Int × Int => .agg #[I k.1, I k.2]) (fun x : Bool => .bool x) rq27_6_1 ((mzero : (Int × Int) → Option Bool)) :: OwnS 3 1 vq27_8_3 (yq27_8_1.map cI) :: OwnS 3 1 vq27_10_3 (yq27_10_1.map cI) :: SN 168 4 nT168 v9 hs10 (y12) :: Bx b8 165 [v9, I 0] :: Bx b4 75 [.slice none 0 0, .slice none 0 0, .slice none 0 0] :: L)) (listed' := #[true, true, true, true, true, true, true, true, true, true, true, true, false, false, false, false, false]) (by kernel_rfl) (by kernel_rfl) ?_
              exact TA.jump hSq27_3 (rq27_5_1, rq27_6_1, vq27_8_3, vq27_10_3) rfl (by kernel_rfl) ⟨rfl, rfl, rfl, rfl, rfl, rfl, rfl, rfl, rfl, trivial⟩ (fun _ s => Sat.by [6, 6, 6, 6, 6, 6, 6] 7 0 (by kernel_rfl) s)
          refine TA.lem (γ := Nat × Value × Value) 7 #[true, true, true, true, true, true, false, true, true, true, true, false, false, false, false, false, false] (fun (rq27_5_1, vq27_8_3, vq27_10_3) => [(0, I a0), (1, h1), (4, .pointer (some ⟨b4, 0, none⟩)), (6, .pointer (some ⟨b8, 0, none⟩)), (30, I a0), (31, I x13), (33, .pointer (some ⟨b8, 0, none⟩)), (37, v9), (38, .map (some rq27_5_1)), (41, vq27_8_3), (43, vq27_10_3)]) (fun (rq27_5_1, vq27_8_3, vq27_10_3) => (MF (fun k : Int × Int => .agg #[I k.1, I k.2]) (fun x : Bool => .bool x) rq27_5_1 ((mzero : (Int × Int) → Option Bool)) :: OwnS 3 1 vq27_8_3 (yq27_8_1.map cI) :: OwnS 3 1 vq27_10_3 (yq27_10_1.map cI) :: SN 168 4 nT168 v9 hs10 (y12) :: Bx b8 165 [v9, I 0] :: Bx b4 75 [.slice none 0 0, .slice none 0 0, .slice none 0 0] :: L)) ?_ fun hSq27_5 => ?_
          · rintro ⟨rq27_5_1, vq27_8_3, vq27_10_3⟩
            refine TA.all1 (i := 6) (by kernel_rfl) ?_
            · refine TB.of rfl ?_
              refine TO.mkMF (kf := (fun k : Int × Int => .agg #[I k.1, I k.2])) (vf := (fun x : Bool => .bool x)) rfl fun rq27_6_1 => ?_
              refine TA.back (.inr (fun _ s => Sat.by [6, 6] 2 5 (by kernel_rfl) s)) ?_
              refine TA.asL (L' := (MF (fun k : Int × Int => .agg #[I k.1, I k.2]) (fun x : Bool => .bool x) rq27_6_1 ((mzero : (Int × Int) → Option Bool)) :: MF (fun k : Int × Int => .agg #[I k.1, I k.2]) (fun x : Bool => .bool x) rq27_5_1 ((mzero : (Int × Int) → Option Bool)) :: OwnS 3 1 vq27_8_3 (yq27_8_1.map cI) :: OwnS 3 1 vq27_10_3 (yq27_10_1.map cI) :: SN 168 4 nT168 v9 hs10 (y12) :: Bx b8 165 [v9, I 0] :: Bx b4 75 [.slice none 0 0, .slice none 0 0, .slice none 0 0] :: L)) (listed' := #[true, true, true, true, true, true, true, true, true, true, true, false, false, false, false, false, false]) (by kernel_rfl) (by kernel_rfl) ?_
              exact TA.jump hSq27_4 (rq27_5_1, rq27_6_1, vq27_8_3, vq27_10_3) rfl (by kernel_rfl) ⟨rfl, rfl, rfl, rfl, rfl, rfl, rfl, rfl, rfl, rfl, rfl, rfl, trivial⟩ (fun _ s => Sat.by [6, 6, 6, 6, 6, 5, 6] 7 0 (by kernel_rfl) s)
          refine TA.lem (γ := Nat × Value × Value) 7 #[true, true, true, true, true, false, true, true, true, true, true, false, false, false, false, false, false] (fun (rq27_6_1, vq27_8_3, vq27_10_3) => [(0, I a0), (1, h1), (4, .pointer (some ⟨b4, 0, none⟩)), (6, .pointer (some ⟨b8, 0, none⟩)), (30, I a0), (31, I x13), (33, .pointer (some ⟨b8, 0, none⟩)), (37, v9), (39, .map (some rq27_6_1)), (41, vq27_8_3), (43, vq27_10_3)]) (fun (rq27_6_1, vq27_8_3, vq27_10_3) => (MF (fun k : Int × Int => .agg #[I k.1, I k.2]) (fun x : Bool => .bool x) rq27_6_1 ((mzero : (Int × Int) → Option Bool)) :: OwnS 3 1 vq27_8_3 (yq27_8_1.map cI) :: OwnS 3 1 vq27_10_3 (yq27_10_1.map cI) :: SN 168 4 nT168 v9 hs10 (y12) :: Bx b8 165 [v9, I 0] :: Bx b4 75 [.slice none 0 0, .slice none 0 0, .slice none 0 0] :: L)) ?_ fun hSq27_6 => ?_
          · rintro ⟨rq27_6_1, vq27_8_3, vq27_10_3⟩
            refine TA.all1 (i := 5) (by kernel_rfl) ?_
            · refine TB.of rfl ?_
              refine TO.mkMF (kf := (fun k : Int × Int => .agg #[I k.1, I k.2])) (vf := (fun x : Bool => .bool x)) rfl fun rq27_5_1 => ?_
              refine TA.back (.inr (fun _ s => Sat.by [6, 6] 2 5 (by kernel_rfl) s)) ?_
              refine TA.asL (L' := (MF (fun k : Int × Int => .agg #[I k.1, I k.2]) (fun x : Bool => .bool x) rq27_5_1 ((mzero : (Int × Int) → Option Bool)) :: MF (fun k : Int × Int => .agg #[I k.1, I k.2]) (fun x : Bool => .bool x) rq27_6_1 ((mzero : (Int × Int) → Option Bool)) :: OwnS 3 1 vq27_8_3 (yq27_8_1.map cI) :: OwnS 3 1 vq27_10_3 (yq27_10_1.map cI) :: SN 168 4 nT168 v9 hs10 (y12) :: Bx b8 165 [v9, I 0] :: Bx b4 75 [.slice none 0 0, .slice none 0 0, .slice none 0 0] :: L)) (listed' := #[true, true, true, true, true, true, true, true, true, true, true, false, false, false, false, false, false]) (by kernel_rfl) (by kernel_rfl) ?_
              exact TA.jump hSq27_4 (rq27_5_1, rq27_6_1, vq27_8_3, vq27_10_3) rfl (by kernel_rfl) ⟨rfl, rfl, rfl, rfl, rfl, rfl, rfl, rfl, rfl, rfl, rfl, rfl, trivial⟩ (fun _ s => Sat.by [6, 6, 6, 6, 6, 6, 6] 7 0 (by kernel_rfl) s)
          refine TA.lem (γ := Nat × Nat × Value) 7 #[true, true, true, true, true, true, true, true, false, true, true, false, false, false, false, false, false] (fun (rq27_5_1, rq27_6_1, vq27_10_3) => [(0, I a0), (1, h1), (4, .pointer (some ⟨b4, 0, none⟩)), (6, .pointer (some ⟨b8, 0, none⟩)), (30, I a0), (31, I x13), (33, .pointer (some ⟨b8, 0, none⟩)), (37, v9), (38, .map (some rq27_5_1)), (39, .map (some rq27_6_1)), (40, I a0), (43, vq27_10_3)]) (fun (rq27_5_1, rq27_6_1, vq27_10_3) => (MF (fun k : Int × Int => .agg #[I k.1, I k.2]) (fun x : Bool => .bool x) rq27_5_1 ((mzero : (Int × Int) → Option Bool)) :: MF (fun k : Int × Int => .agg #[I k.1, I k.2]) (fun x : Bool => .bool x) rq27_6_1 ((mzero : (Int × Int) → Option Bool)) :: OwnS 3 1 vq27_10_3 (yq27_10_1.map cI) :: SN 168 4 nT168 v9 hs10 (y12) :: Bx b8 165 [v9, I 0] :: Bx b4 75 [.slice none 0 0, .slice none 0 0, .slice none 0 0] :: L)) ?_ fun hSq27_7 => ?_
          · rintro ⟨rq27_5_1, rq27_6_1, vq27_10_3⟩
            refine TA.all1 (i := 8) (by kernel_rfl) ?_
            · refine TB.of rfl ?_
              refine TO.mkS (f := cI) (za := 0) kelemB_22_3_1_8_true kinfo_3_bind_zero_some_I_0 rfl (by decide) rfl rfl hkq27_8_2 rfl fun vq27_8_3 => ?_
              refine TA.back (.inr (fun _ s => Sat.by [6, 6] 2 5 (by kernel_rfl) s)) ?_
              refine TA.asL (L' := (OwnS 3 1 vq27_8_3 (yq27_8_1.map cI) :: MF (fun k : Int × Int => .agg #[I k.1, I k.2]) (fun x : Bool => .bool x) rq27_5_1 ((mzero : (Int × Int) → Option Bool)) :: MF (fun k : Int × Int => .agg #[I k.1, I k.2]) (fun x : Bool => .bool x) rq27_6_1 ((mzero : (Int × Int) → Option Bool)) :: OwnS 3 1 vq27_10_3 (yq27_10_1.map cI) :: SN 168 4 nT168 v9 hs10 (y12) :: Bx b8 165 [v9, I 0] :: Bx b4 75 [.slice none 0 0, .slice none 0 0, .slice none 0 0] :: L)) (listed' := #[true, true, true, true, true, true, true, true, true, true, true, false, false, false, false, false, false]) (by kernel_rfl) (by kernel_rfl) ?_
              exact TA.jump hSq27_4 (rq27_5_1, rq27_6_1, vq27_8_3, vq27_10_3) rfl (by kernel_rfl) ⟨rfl, rfl, rfl, rfl, rfl, rfl, rfl, rfl, rfl, rfl, rfl, rfl, trivial⟩ (fun _ s => Sat.by [6, 6, 6, 6, 4, 6, 6] 7 0 (by kernel_rfl) s)
          refine TA.lem (γ := Nat × Nat × Value) 7 #[true, true, true, true, true, true, true, true, true, true, false, false, false, false, false, false, false] (fun (rq27_5_1, rq27_6_1, vq27_8_3) => [(0, I a0), (1, h1), (4, .pointer (some ⟨b4, 0, none⟩)), (6, .pointer (some ⟨b8, 0, none⟩)), (30, I a0), (31, I x13), (33, .pointer (some ⟨b8, 0, none⟩)), (37, v9), (38, .map (some rq27_5_1)), (39, .map (some rq27_6_1)), (41, vq27_8_3), (42, I a0)]) (fun (rq27_5_1, rq27_6_1, vq27_8_3) => (MF (fun k : Int × Int => .agg #[I k.1, I k.2]) (fun x : Bool => .bool x) rq27_5_1 ((mzero : (Int × Int) → Option Bool)) :: MF (fun k : Int × Int => .agg #[I k.1, I k.2]) (fun x : Bool => .bool x) rq27_6_1 ((mzero : (Int × Int) → Option Bool)) :: OwnS 3 1 vq27_8_3 (yq27_8_1.map cI) :: SN 168 4 nT168 v9 hs10 (y12) :: Bx b8 165 [v9, I 0] :: Bx b4 75 [.slice none 0 0, .slice none 0 0, .slice none 0 0] :: L)) ?_ fun hSq27_8 => ?_
          · rintro ⟨rq27_5_1, rq27_6_1, vq27_8_3⟩
            refine TA.all1 (i := 10) (by kernel_rfl) ?_
            · refine TB.of rfl ?_
              refine TO.mkS (f := cI) (za := 0) kelemB_22_3_1_8_true kinfo_3_bind_zero_some_I_0 rfl (by decide) rfl rfl hkq27_10_2 rfl fun vq27_10_3 => ?_
              refine TA.back (.inr (fun _ s => Sat.by [6, 6] 2 5 (by kernel_rfl) s)) ?_
              refine TA.asL (L' := (OwnS 3 1 vq27_10_3 (yq27_10_1.map cI) :: MF (fun k : Int × Int => .agg #[I k.1, I k.2]) (fun x : Bool => .bool x) rq27_5_1 ((mzero : (Int × Int) → Option Bool)) :: MF (fun k : Int × Int => .agg #[I k.1, I k.2]) (fun x : Bool => .bool x) rq27_6_1 ((mzero : (Int × Int) → Option Bool)) :: OwnS 3 1 vq27_8_3 (yq27_8_1.map cI) :: SN 168 4 nT168 v9 hs10 (y12) :: Bx b8 165 [v9, I 0] :: Bx b4 75 [.slice none 0 0, .slice none 0 0, .slice none 0 0] :: L)) (listed' := #[true, true, true, true, true, true, true, true, true, true, true, false, false, false, false, false, false]) (by kernel_rfl) (by kernel_rfl) ?_
              exact TA.jump hSq27_4 (rq27_5_1, rq27_6_1, vq27_8_3, vq27_10_3) rfl (by kernel_rfl) ⟨rfl, rfl, rfl, rfl, rfl, rfl, rfl, rfl, rfl, rfl, rfl, rfl, trivial⟩ (fun _ s => Sat.by [6, 6, 6, 3, 6, 6, 6] 7 0 (by kernel_rfl) s)
          refine TA.lem (γ := Nat × Value) 8 #[true, true, true, true, true, true, false, true, false, true, true, false, false, false, false, false, false] (fun (rq27_5_1, vq27_10_3) => [(0, I a0), (1, h1), (4, .pointer (some ⟨b4, 0, none⟩)), (6, .pointer (some ⟨b8, 0, none⟩)), (30, I a0), (31, I x13), (33, .pointer (some ⟨b8, 0, none⟩)), (37, v9), (38, .map (some rq27_5_1)), (40, I a0), (43, vq27_10_3)]) (fun (rq27_5_1, vq27_10_3) => (MF (fun k : Int × Int => .agg #[I k.1, I k.2]) (fun x : Bool => .bool x) rq27_5_1 ((mzero : (Int × Int) → Option Bool)) :: OwnS 3 1 vq27_10_3 (yq27_10_1.map cI) :: SN 168 4 nT168 v9 hs10 (y12) :: Bx b8 165 [v9, I 0] :: Bx b4 75 [.slice none 0 0, .slice none 0 0, .slice none 0 0] :: L)) ?_ fun hSq27_9 => ?_
          · rintro ⟨rq27_5_1, vq27_10_3⟩
            refine TA.all2 (i := 6) (j := 8) (by kernel_rfl) ?_ ?_
            · refine TB.of rfl ?_
              refine TO.mkMF (kf := (fun k : Int × Int => .agg #[I k.1, I k.2])) (vf := (fun x : Bool => .bool x)) rfl fun rq27_6_1 => ?_
              refine TA.back (.inr (fun _ s => Sat.by [5, 5] 2 4 (by kernel_rfl) s)) ?_
              refine TA.asL (L' := (MF (fun k : Int × Int => .agg #[I k.1, I k.2]) (fun x : Bool => .bool x) rq27_6_1 ((mzero : (Int × Int) → Option Bool)) :: MF (fun k : Int × Int => .agg #[I k.1, I k.2]) (fun x : Bool => .bool x) rq27_5_1 ((mzero : (Int × Int) → Option Bool)) :: OwnS 3 1 vq27_10_3 (yq27_10_1.map cI) :: SN 168 4 nT168 v9 hs10 (y12) :: Bx b8 165 [v9, I 0] :: Bx b4 75 [.slice none 0 0, .slice none 0 0, .slice none 0 0] :: L)) (listed' := #[true, true, true, true, true, true, true, true, false, true, true, false, false, false, false, false, false]) (by kernel_rfl) (by kernel_rfl) ?_
              exact TA.jump hSq27_7 (rq27_5_1, rq27_6_1, vq27_10_3) rfl (by kernel_rfl) ⟨rfl, rfl, rfl, rfl, rfl, rfl, rfl, rfl, rfl, rfl, rfl, rfl, trivial⟩ (fun _ s => Sat.by [5, 5, 5, 5, 4, 5] 6 0 (by kernel_rfl) s)
            · refine TB.of rfl ?_
              refine TO.mkS (f := cI) (za := 0) kelemB_22_3_1_8_true kinfo_3_bind_zero_some_I_0 rfl (by decide) rfl rfl hkq27_8_2 rfl fun vq27_8_3 => ?_
              refine TA.back (.inr (fun _ s => Sat.by [5, 5] 2 4 (by kernel_rfl) s)) ?_
              refine TA.asL (L' := (OwnS 3 1 vq27_8_3 (yq27_8_1.map cI) :: MF (fun k : Int × Int => .agg #[I k.1, I k.2]) (fun x : Bool => .bool x) rq27_5_1 ((mzero : (Int × Int) → Option Bool)) :: OwnS 3 1 vq27_10_3 (yq27_10_1.map cI) :: SN 168 4 nT168 v9 hs10 (y12) :: Bx b8 165 [v9, I 0] :: Bx b4 75 [.slice none 0 0, .slice none 0 0, .slice none 0 0] :: L)) (listed' := #[true, true, true, true, true, true, false, true, true, true, true, false, false, false, false, false, false]) (by kernel_rfl) (by kernel_rfl) ?_
              exact TA.jump hSq27_5 (rq27_5_1, vq27_8_3, vq27_10_3) rfl (by kernel_rfl) ⟨rfl, rfl, rfl, rfl, rfl, rfl, rfl, rfl, rfl, rfl, rfl, trivial⟩ (fun _ s => Sat.by [5, 5, 5, 5, 4, 5] 6 0 (by kernel_rfl) s)
          refine TA.lem (γ := Nat × Value) 8 #[true, true, true, true, true, false, true, true, false, true, true, false, false, false, false, false, false] (fun (rq27_6_1, vq27_10_3) => [(0, I a0), (1, h1), (4, .pointer (some ⟨b4, 0, none⟩)), (6, .pointer (some ⟨b8, 0, none⟩)), (30, I a0), (31, I x13), (33, .pointer (some ⟨b8, 0, none⟩)), (37, v9), (39, .map (some rq27_6_1)), (40, I a0), (43, vq27_10_3)]) (fun (rq27_6_1, vq27_10_3) => (MF (fun k : Int × Int => .agg #[I k.1, I k.2]) (fun x : Bool => .bool x) rq27_6_1 ((mzero : (Int × Int) → Option Bool)) :: OwnS 3 1 vq27_10_3 (yq27_10_1.map cI) :: SN 168 4 nT168 v9 hs10 (y12) :: Bx b8 165 [v9, I 0] :: Bx b4 75 [.slice none 0 0, .slice none 0 0, .slice none 0 0] :: L)) ?_ fun hSq27_10 => ?_
          · rintro ⟨rq27_6_1, vq27_10_3⟩
            refine TA.all2 (i := 5) (j := 8) (by kernel_rfl) ?_ ?_
            · refine TB.of rfl ?_
              refine TO.mkMF (kf := (fun k : Int × Int => .agg #[I k.1, I k.2])) (vf := (fun x : Bool => .bool x)) rfl fun rq27_5_1 => ?_
              refine TA.back (.inr (fun _ s => Sat.by [5, 5] 2 4 (by kernel_rfl) s)) ?_
              refine TA.asL (L' := (MF (fun k : Int × Int => .agg #[I k.1, I k.2]) (fun x : Bool => .bool x) rq27_5_1 ((mzero : (Int × Int) → Option Bool)) :: MF (fun k : Int × Int => .agg #[I k.1, I k.2]) (fun x : Bool => .bool x) rq27_6_1 ((mzero : (Int × Int) → Option Bool)) :: OwnS 3 1 vq27_10_3 (yq27_10_1.map cI) :: SN 168 4 nT168 v9 hs10 (y12) :: Bx b8 165 [v9, I 0] :: Bx b4 75 [.slice none 0 0, .slice none 0 0, .slice none 0 0] :: L)) (listed' := #[true, true, true, true, true, true, true, true, false, true, true, false, false, false, false, false, false]) (by kernel_rfl) (by kernel_rfl) ?_
              exact TA.jump hSq27_7 (rq27_5_1, rq27_6_1, vq27_10_3) rfl (by kernel_rfl) ⟨rfl, rfl, rfl, rfl, rfl, rfl, rfl, rfl, rfl, rfl, rfl, rfl, trivial⟩ (fun _ s => Sat.by [5, 5, 5, 5, 5, 5] 6 0 (by kernel_rfl) s)
            · refine TB.of rfl ?_
              refine TO.mkS (f := cI) (za := 0) kelemB_22_3_1_8_true kinfo_3_bind_zero_some_I_0 rfl (by decide) rfl rfl hkq27_8_2 rfl fun vq27_8_3 => ?_
              refine TA.back (.inr (fun _ s => Sat.by [5, 5] 2 4 (by kernel_rfl) s)) ?_
              refine TA.asL (L' := (OwnS 3 1 vq27_8_3 (yq27_8_1.map cI) :: MF (fun k : Int × Int => .agg #[I k.1, I k.2]) (fun x : Bool => .bool x) rq27_6_1 ((mzero : (Int × Int) → Option Bool)) :: OwnS 3 1 vq27_10_3 (yq27_10_1.map cI) :: SN 168 4 nT168 v9 hs10 (y12) :: Bx b8 165 [v9, I 0] :: Bx b4 75 [.slice none 0 0, .slice none 0 0, .slice none 0 0] :: L)) (listed' := #[true, true, true, true, true, false, true, true, true, true, true, false, false, false, false, false, false]) (by kernel_rfl) (by kernel_rfl) ?_
              exact TA.jump hSq27_6 (rq27_6_1, vq27_8_3, vq27_10_3) rfl (by kernel_rfl) ⟨rfl, rfl, rfl, rfl, rfl, rfl, rfl, rfl, rfl, rfl, rfl, trivial⟩ (fun _ s => Sat.by [5, 5, 5, 5, 4, 5] 6 0 (by kernel_rfl) s)
          refine TA.lem (γ := Value × Value) 8 #[true, true, true, true, true, false, false, true, true, true, true, false, false, false, false, false, false] (fun (vq27_8_3, vq27_10_3) => [(0, I a0), (1, h1), (4, .pointer (some ⟨b4, 0, none⟩)), (6, .pointer (some ⟨b8, 0, none⟩)), (30, I a0), (31, I x13), (33, .pointer (some ⟨b8, 0, none⟩)), (37, v9), (41, vq27_8_3), (43, vq27_10_3)]) (fun (vq27_8_3, vq27_10_3) => (OwnS 3 1 vq27_8_3 (yq27_8_1.map cI) :: OwnS 3 1 vq27_10_3 (yq27_10_1.map cI) :: SN 168 4 nT168 v9 hs10 (y12) :: Bx b8 165 [v9, I 0] :: Bx b4 75 [.slice none 0 0, .slice none 0 0, .slice none 0 0] :: L)) ?_ fun hSq27_11 => ?_
          · rintro ⟨vq27_8_3, vq27_10_3⟩
            refine TA.all2 (i := 5) (j := 6) (by kernel_rfl) ?_ ?_
            · refine TB.of rfl ?_
              refine TO.mkMF (kf := (fun k : Int × Int => .agg #[I k.1, I k.2])) (vf := (fun x : Bool => .bool x)) rfl fun rq27_5_1 => ?_
              refine TA.back (.inr (fun _ s => Sat.by [5, 5] 2 4 (by kernel_rfl) s)) ?_
              refine TA.asL (L' := (MF (fun k : Int × Int => .agg #[I k.1, I k.2]) (fun x : Bool => .bool x) rq27_5_1 ((mzero : (Int × Int) → Option Bool)) :: OwnS 3 1 vq27_8_3 (yq27_8_1.map cI) :: OwnS 3 1 vq27_10_3 (yq27_10_1.map cI) :: SN 168 4 nT168 v9 hs10 (y12) :: Bx b8 165 [v9, I 0] :: Bx b4 75 [.slice none 0 0, .slice none 0 0, .slice none 0 0] :: L)) (listed' := #[true, true, true, true, true, true, false, true, true, true, true, false, false, false, false, false, false]) (by kernel_rfl) (by kernel_rfl) ?_
              exact TA.jump hSq27_5 (rq27_5_1, vq27_8_3, vq27_10_3) rfl (by kernel_rfl) ⟨rfl, rfl, rfl, rfl, rfl, rfl, rfl, rfl, rfl, rfl, rfl, trivial⟩ (fun _ s => Sat.by [5, 5, 5, 5, 5, 5] 6 0 (by kernel_rfl) s)
            · refine TB.of rfl ?_
              refine TO.mkMF (kf := (fun k : Int × Int => .agg #[I k.1, I k.2])) (vf := (fun x : Bool => .bool x)) rfl fun rq27_6_1 => ?_
              refine TA.back (.inr (fun _ s => Sat.by [5, 5] 2 4 (by kernel_rfl) s)) ?_
              refine TA.asL (L' := (MF (fun k : Int × Int => .agg #[I k.1, I k.2]) (fun x : Bool => .bool x) rq27_6_1 ((mzero : (Int × Int) → Option Bool)) :: OwnS 3 1 vq27_8_3 (yq27_8_1.map cI) :: OwnS 3 1 vq27_10_3 (yq27_10_1.map cI) :: SN 168 4 nT168 v9 hs10 (y12) :: Bx b8 165 [v9, I 0] :: Bx b4 75 [.slice none 0 0, .slice none 0 0, .slice none 0 0] :: L)) (listed' := #[true, true, true, true, true, false, true, true, true, true, true, false, false, false, false, false, false]) (by kernel_rfl) (by kernel_rfl) ?_
              exact TA.jump hSq27_6 (rq27_6_1, vq27_8_3, vq27_10_3) rfl (by kernel_rfl) ⟨rfl, rfl, rfl, rfl, rfl, rfl, rfl, rfl, rfl, rfl, rfl, trivial⟩ (fun _ s => Sat.by [5, 5, 5, 5, 5, 5] 6 0 (by kernel_rfl) s)
          refine TA.lem (γ := Nat × Value) 8 #[true, true, true, true, true, true, false, true, true, true, false, false, false, false, false, false, false] (fun (rq27_5_1, vq27_8_3) => [(0, I a0), (1, h1), (4, .pointer (some ⟨b4, 0, none⟩)), (6, .pointer (some ⟨b8, 0, none⟩)), (30, I a0), (31, I x13), (33, .pointer (some ⟨b8, 0, none⟩)), (37, v9), (38, .map (some rq27_5_1)), (41, vq27_8_3), (42, I a0)]) (fun (rq27_5_1, vq27_8_3) => (MF (fun k : Int × Int => .agg #[I k.1, I k.2]) (fun x : Bool => .bool x) rq27_5_1 ((mzero : (Int × Int) → Option Bool)) :: OwnS 3 1 vq27_8_3 (yq27_8_1.map cI) :: SN 168 4 nT168 v9 hs10 (y12) :: Bx b8 165 [v9, I 0] :: Bx b4 75 [.slice none 0 0, .slice none 0 0, .slice none 0 0] :: L)) ?_ fun hSq27_12 => ?_
          · rintro ⟨rq27_5_1, vq27_8_3⟩
            refine TA.all2 (i := 6) (j := 10) (by kernel_rfl) ?_ ?_
            · refine TB.of rfl ?_
              refine TO.mkMF (kf := (fun k : Int × Int => .agg #[I k.1, I k.2])) (vf := (fun x : Bool => .bool x)) rfl fun rq27_6_1 => ?_
              refine TA.back (.inr (fun _ s => Sat.by [5, 5] 2 4 (by kernel_rfl) s)) ?_
              refine TA.asL (L' := (MF (fun k : Int × Int => .agg #[I k.1, I k.2]) (fun x : Bool => .bool x) rq27_6_1 ((mzero : (Int × Int) → Option Bool)) :: MF (fun k : Int × Int => .agg #[I k.1, I k.2]) (fun x : Bool => .bool x) rq27_5_1 ((mzero : (Int × Int) → Option Bool)) :: OwnS 3 1 vq27_8_3 (yq27_8_1.map cI) :: SN 168 4 nT168 v9 hs10 (y12) :: Bx b8 165 [v9, I 0] :: Bx b4 75 [.slice none 0 0, .slice none 0 0, .slice none 0 0] :: L)) (listed' := #[true, true, true, true, true, true, true, true, true, true, false, false, false, false, false, false, false]) (by kernel_rfl) (by kernel_rfl) ?_
              exact TA.jump hSq27_8 (rq27_5_1, rq27_6_1, vq27_8_3) rfl (by kernel_rfl) ⟨rfl, rfl, rfl, rfl, rfl, rfl, rfl, rfl, rfl, rfl, rfl, rfl, trivial⟩ (fun _ s => Sat.by [5, 5, 5, 5, 4, 5] 6 0 (by kernel_rfl) s)
            · refine TB.of rfl ?_
              refine TO.mkS (f := cI) (za := 0) kelemB_22_3_1_8_true kinfo_3_bind_zero_some_I_0 rfl (by decide) rfl rfl hkq27_10_2 rfl fun vq27_10_3 => ?_
              refine TA.back (.inr (fun _ s => Sat.by [5, 5] 2 4 (by kernel_rfl) s)) ?_
              refine TA.asL (L' := (OwnS 3 1 vq27_10_3 (yq27_10_1.map cI) :: MF (fun k : Int × Int => .agg #[I k.1, I k.2]) (fun x : Bool => .bool x) rq27_5_1 ((mzero : (Int × Int) → Option Bool)) :: OwnS 3 1 vq27_8_3 (yq27_8_1.map cI) :: SN 168 4 nT168 v9 hs10 (y12) :: Bx b8 165 [v9, I 0] :: Bx b4 75 [.slice none 0 0, .slice none 0 0, .slice none 0 0] :: L)) (listed' := #[true, true, true, true, true, true, false, true, true, true, true, false, false, false, false, false, false]) (by kernel_rfl) (by kernel_rfl) ?_
              exact TA.jump hSq27_5 (rq27_5_1, vq27_8_3, vq27_10_3) rfl (by kernel_rfl) ⟨rfl, rfl, rfl, rfl, rfl, rfl, rfl, rfl, rfl, rfl, rfl, trivial⟩ (fun _ s => Sat.by [5, 5, 5, 3, 5, 5] 6 0 (by kernel_rfl) s)
          refine TA.lem (γ := Nat × Value) 8 #[true, true, true, true, true, false, true, true, true, true, false, false, false, false, false, false, false] (fun (rq27_6_1, vq27_8_3) => [(0, I a0), (1, h1), (4, .pointer (some ⟨b4, 0, none⟩)), (6, .pointer (some ⟨b8, 0, none⟩)), (30, I a0), (31, I x13), (33, .pointer (some ⟨b8, 0, none⟩)), (37, v9), (39, .map (some rq27_6_1)), (41, vq27_8_3), (42, I a0)]) (fun (rq27_6_1, vq27_8_3) => (MF (fun k : Int × Int => .agg #[I k.1, I k.2]) (fun x : Bool => .bool x) rq27_6_1 ((mzero : (Int × Int) → Option Bool)) :: OwnS 3 1 vq27_8_3 (yq27_8_1.map cI) :: SN 168 4 nT168 v9 hs10 (y12) :: Bx b8 165 [v9, I 0] :: Bx b4 75 [.slice none 0 0, .slice none 0 0, .slice none 0 0] :: L)) ?_ fun hSq27_13 => ?_
          · rintro ⟨rq27_6_1, vq27_8_3⟩
            refine TA.all2 (i := 5) (j := 10) (by kernel_rfl) ?_ ?_
            · refine TB.of rfl ?_
              refine TO.mkMF (kf := (fun k : Int × Int => .agg #[I k.1, I k.2])) (vf := (fun x : Bool => .bool x)) rfl fun rq27_5_1 => ?_
              refine TA.back (.inr (fun _ s => Sat.by [5, 5] 2 4 (by kernel_rfl) s)) ?_
              refine TA.asL (L' := (MF (fun k : Int × Int => .agg #[I k.1, I k.2]) (fun x : Bool => .bool x) rq27_5_1 ((mzero : (Int × Int) → Option Bool)) :: MF (fun k : Int × Int => .agg #[I k.1, I k.2]) (fun x : Bool => .bool x) rq27_6_1 ((mzero : (Int × Int) → Option Bool)) :: OwnS 3 1 vq27_8_3 (yq27_8_1.map cI) :: SN 168 4 nT168 v9 hs10 (y12) :: Bx b8 165 [v9, I 0] :: Bx b4 75 [.slice none 0 0, .slice none 0 0, .slice none 0 0] :: L)) (listed' := #[true, true, true, true, true, true, true, true, true, true, false, false, false, false, false, false, false]) (by kernel_rfl) (by kernel_rfl) ?_
              exact TA.jump hSq27_8 (rq27_5_1, rq27_6_1, vq27_8_3) rfl (by kernel_rfl) ⟨rfl, rfl, rfl, rfl, rfl, rfl, rfl, rfl, rfl, rfl, rfl, rfl, trivial⟩ (fun _ s => Sat.by [5, 5, 5, 5, 5, 5] 6 0 (by kernel_rfl) s)
            · refine TB.of rfl ?_
              refine TO.mkS (f := cI) (za := 0) kelemB_22_3_1_8_true kinfo_3_bind_zero_some_I_0 rfl (by decide) rfl rfl hkq27_10_2 rfl fun vq27_10_3 => ?_
              refine TA.back (.inr (fun _ s => Sat.by [5, 5] 2 4 (by kernel_rfl) s)) ?_
              refine TA.asL (L' := (OwnS 3 1 vq27_10_3 (yq27_10_1.map cI) :: MF (fun k : Int × Int => .agg #[I k.1, I k.2]) (fun x : Bool => .bool x) rq27_6_1 ((mzero : (Int × Int) → Option Bool)) :: OwnS 3 1 vq27_8_3 (yq27_8_1.map cI) :: SN 168 4 nT168 v9 hs10 (y12) :: Bx b8 165 [v9, I 0] :: Bx b4 75 [.slice none 0 0, .slice none 0 0, .slice none 0 0] :: L)) (listed' := #[true, true, true, true, true, false, true, true, true, true, true, false, false, false, false, false, false]) (by kernel_rfl) (by kernel_rfl) ?_
              exact TA.jump hSq27_6 (rq27_6_1, vq27_8_3, vq27_10_3) rfl (by kernel_rfl) ⟨rfl, rfl, rfl, rfl, rfl, rfl, rfl, rfl, rfl, rfl, rfl, trivial⟩ (fun _ s => Sat.by [5, 5, 5, 3, 5, 5] 6 0 (by kernel_rfl) s)
          refine TA.lem (γ := Nat × Nat) 8 #[true, true, true, true, true, true, true, true, false, true, false, false, false, false, false, false, false] (fun (rq27_5_1, rq27_6_1) => [(0, I a0), (1, h1), (4, .pointer (some ⟨b4, 0, none⟩)), (6, .pointer (some ⟨b8, 0, none⟩)), (30, I a0), (31, I x13), (33, .pointer (some ⟨b8, 0, none⟩)), (37, v9), (38, .map (some rq27_5_1)), (39, .map (some rq27_6_1)), (40, I a0), (42, I a0)]) (fun (rq27_5_1, rq27_6_1) => (MF (fun k : Int × Int => .agg #[I k.1, I k.2]) (fun x : Bool => .bool x) rq27_5_1 ((mzero : (Int × Int) → Option Bool)) :: MF (fun k : Int × Int => .agg #[I k.1, I k.2]) (fun x : Bool => .bool x) rq27_6_1 ((mzero : (Int × Int) → Option Bool)) :: SN 168 4 nT168 v9 hs10 (y12) :: Bx b8 165 [v9, I 0] :: Bx b4 75 [.slice none 0 0, .slice none 0 0, .slice none 0 0] :: L)) ?_ fun hSq27_14 => ?_
          · rintro ⟨rq27_5_1, rq27_6_1⟩
            refine TA.all2 (i := 8) (j := 10) (by kernel_rfl) ?_ ?_
            · refine TB.of rfl ?_
              refine TO.mkS (f := cI) (za := 0) kelemB_22_3_1_8_true kinfo_3_bind_zero_some_I_0 rfl (by decide) rfl rfl hkq27_8_2 rfl fun vq27_8_3 => ?_
              refine TA.back (.inr (fun _ s => Sat.by [5, 5] 2 4 (by kernel_rfl) s)) ?_
              refine TA.asL (L' := (OwnS 3 1 vq27_8_3 (yq27_8_1.map cI) :: MF (fun k : Int × Int => .agg #[I k.1, I k.2]) (fun x : Bool => .bool x) rq27_5_1 ((mzero : (Int × Int) → Option Bool)) :: MF (fun k : Int × Int => .agg #[I k.1, I k.2]) (fun x : Bool => .bool x) rq27_6_1 ((mzero : (Int × Int) → Option Bool)) :: SN 168 4 nT168 v9 hs10 (y12) :: Bx b8 165 [v9, I 0] :: Bx b4 75 [.slice none 0 0, .slice none 0 0, .slice none 0 0] :: L)) (listed' := #[true, true, true, true, true, true, true, true, true, true, false, false, false, false, false, false, false]) (by kernel_rfl) (by kernel_rfl) ?_
              exact TA.jump hSq27_8 (rq27_5_1, rq27_6_1, vq27_8_3) rfl (by kernel_rfl) ⟨rfl, rfl, rfl, rfl, rfl, rfl, rfl, rfl, rfl, rfl, rfl, rfl, trivial⟩ (fun _ s => Sat.by [5, 5, 5, 3, 5, 5] 6 0 (by kernel_rfl) s)
            · refine TB.of rfl ?_
              refine TO.mkS (f := cI) (za := 0) kelemB_22_3_1_8_true kinfo_3_bind_zero_some_I_0 rfl (by decide) rfl rfl hkq27_10_2 rfl fun vq27_10_3 => ?_
              refine TA.back (.inr (fun _ s => Sat.by [5, 5] 2 4 (by kernel_rfl) s)) ?_
              refine TA.asL (L' := (OwnS 3 1 vq27_10_3 (yq27_10_1.map cI) :: MF (fun k : Int × Int => .agg #[I k.1, I k.2]) (fun x : Bool => .bool x) rq27_5_1 ((mzero : (Int × Int) → Option Bool)) :: MF (fun k : Int × Int => .agg #[I k.1, I k.2]) (fun x : Bool => .bool x) rq27_6_1 ((mzero : (Int × Int) → Option Bool)) :: SN 168 4 nT168 v9 hs10 (y12) :: Bx b8 165 [v9, I 0] :: Bx b4 75 [.slice none 0 0, .slice none 0 0, .slice none 0 0] :: L)) (listed' := #[true, true, true, true, true, true, true, true, false, true, true, false, false, false, false, false, false]) (by kernel_rfl) (by kernel_rfl) ?_
              exact TA.jump hSq27_7 (rq27_5_1, rq27_6_1, vq27_10_3) rfl (by kernel_rfl) ⟨rfl, rfl, rfl, rfl, rfl, rfl, rfl, rfl, rfl, rfl, rfl, rfl, trivial⟩ (fun _ s => Sat.by [5, 5, 5, 3, 5, 5] 6 0 (by kernel_rfl) s)
          refine TA.lem (γ := Nat) 9 #[true, true, true, true, true, true, false, true, false, true, false, false, false, false, false, false, false] (fun rq27_5_1 => [(0, I a0), (1, h1), (4, .pointer (some ⟨b4, 0, none⟩)), (6, .pointer (some ⟨b8, 0, none⟩)), (30, I a0), (31, I x13), (33, .pointer (some ⟨b8, 0, none⟩)), (37, v9), (38, .map (some rq27_5_1)), (40, I a0), (42, I a0)]) (fun rq27_5_1 => (MF (fun k : Int × Int => .agg #[I k.1, I k.2]) (fun x : Bool => .bool x) rq27_5_1 ((mzero : (Int × Int) → Option Bool)) :: SN 168 4 nT168 v9 hs10 (y12) :: Bx b8 165 [v9, I 0] :: Bx b4 75 [.slice none 0 0, .slice none 0 0, .slice none 0 0] :: L)) ?_ fun hSq27_15 => ?_
          · intro rq27_5_1
            refine TA.all3 (i := 6) (j := 8) (k := 10) (by kernel_rfl) ?_ ?_ ?_
            · refine TB.of rfl ?_
              refine TO.mkMF (kf := (fun k : Int × Int => .agg #[I k.1, I k.2])) (vf := (fun x : Bool => .bool x)) rfl fun rq27_6_1 => ?_
              refine TA.back (.inr (fun _ s => Sat.by [4, 4] 2 3 (by kernel_rfl) s)) ?_
              refine TA.asL (L' := (MF (fun k : Int × Int => .agg #[I k.1, I k.2]) (fun x : Bool => .bool x) rq27_6_1 ((mzero : (Int × Int) → Option Bool)) :: MF (fun k : Int × Int => .agg #[I k.1, I k.2]) (fun x : Bool => .bool x) rq27_5_1 ((mzero : (Int × Int) → Option Bool)) :: SN 168 4 nT168 v9 hs10 (y12) :: Bx b8 165 [v9, I 0] :: Bx b4 75 [.slice none 0 0, .slice none 0 0, .slice none 0 0] :: L)) (listed' := #[true, true, true, true, true, true, true, true, false, true, false, false, false, false, false, false, false]) (by kernel_rfl) (by kernel_rfl) ?_
              exact TA.jump hSq27_14 (rq27_5_1, rq27_6_1) rfl (by kernel_rfl) ⟨rfl, rfl, rfl, rfl, rfl, rfl, rfl, rfl, rfl, rfl, rfl, rfl, trivial⟩ (fun _ s => Sat.by [4, 4, 4, 3, 4] 5 0 (by kernel_rfl) s)
            · refine TB.of rfl ?_
              refine TO.mkS (f := cI) (za := 0) kelemB_22_3_1_8_true kinfo_3_bind_zero_some_I_0 rfl (by decide) rfl rfl hkq27_8_2 rfl fun vq27_8_3 => ?_
              refine TA.back (.inr (fun _ s => Sat.by [4, 4] 2 3 (by kernel_rfl) s)) ?_
              refine TA.asL (L' := (OwnS 3 1 vq27_8_3 (yq27_8_1.map cI) :: MF (fun k : Int × Int => .agg #[I k.1, I k.2]) (fun x : Bool => .bool x) rq27_5_1 ((mzero : (Int × Int) → Option Bool)) :: SN 168 4 nT168 v9 hs10 (y12) :: Bx b8 165 [v9, I 0] :: Bx b4 75 [.slice none 0 0, .slice none 0 0, .slice none 0 0] :: L)) (listed' := #[true, true, true, true, true, true, false, true, true, true, false, false, false, false, false, false, false]) (by kernel_rfl) (by kernel_rfl) ?_
              exact TA.jump hSq27_12 (rq27_5_1, vq27_8_3) rfl (by kernel_rfl) ⟨rfl, rfl, rfl, rfl, rfl, rfl, rfl, rfl, rfl, rfl, rfl, trivial⟩ (fun _ s => Sat.by [4, 4, 4, 3, 4] 5 0 (by kernel_rfl) s)
            · refine TB.of rfl ?_
              refine TO.mkS (f := cI) (za := 0) kelemB_22_3_1_8_true kinfo_3_bind_zero_some_I_0 rfl (by decide) rfl rfl hkq27_10_2 rfl fun vq27_10_3 => ?_
              refine TA.back (.inr (fun _ s => Sat.by [4, 4] 2 3 (by kernel_rfl) s)) ?_
              refine TA.asL (L' := (OwnS 3 1 vq27_10_3 (yq27_10_1.map cI) :: MF (fun k : Int × Int => .agg #[I k.1, I k.2]) (fun x : Bool => .bool x) rq27_5_1 ((mzero : (Int × Int) → Option Bool)) :: SN 168 4 nT168 v9 hs10 (y12) :: Bx b8 165 [v9, I 0] :: Bx b4 75 [.slice none 0 0, .slice none 0 0, .slice none 0 0] :: L)) (listed' := #[true, true, true, true, true, true, false, true, false, true, true, false, false, false, false, false, false]) (by kernel_rfl) (by kernel_rfl) ?_
              exact TA.jump hSq27_9 (rq27_5_1, vq27_10_3) rfl (by kernel_rfl) ⟨rfl, rfl, rfl, rfl, rfl, rfl, rfl, rfl, rfl, rfl, rfl, trivial⟩ (fun _ s => Sat.by [4, 4, 4, 3, 4] 5 0 (by kernel_rfl) s)
          refine TA.lem (γ := Nat) 9 #[true, true, true, true, true, false, true, true, false, true, false, false, false, false, false, false, false] (fun rq27_6_1 => [(0, I a0), (1, h1), (4, .pointer (some ⟨b4, 0, none⟩)), (6, .pointer (some ⟨b8, 0, none⟩)), (30, I a0), (31, I x13), (33, .pointer (some ⟨b8, 0, none⟩)), (37, v9), (39, .map (some rq27_6_1)), (40, I a0), (42, I a0)]) (fun rq27_6_1 => (MF (fun k : Int × Int => .agg #[I k.1, I k.2]) (fun x : Bool => .bool x) rq27_6_1 ((mzero : (Int × Int) → Option Bool)) :: SN 168 4 nT168 v9 hs10 (y12) :: Bx b8 165 [v9, I 0] :: Bx b4 75 [.slice none 0 0, .slice none 0 0, .slice none 0 0] :: L)) ?_ fun hSq27_16 => ?_
          · intro rq27_6_1
            refine TA.all3 (i := 5) (j := 8) (k := 10) (by kernel_rfl) ?_ ?_ ?_
            · refine TB.of rfl ?_
              refine TO.mkMF (kf := (fun k : Int × Int => .agg #[I k.1, I k.2])) (vf := (fun x : Bool => .bool x)) rfl fun rq27_5_1 => ?_
              refine TA.back (.inr (fun _ s => Sat.by [4, 4] 2 3 (by kernel_rfl) s)) ?_
              refine TA.asL (L' := (MF (fun k : Int × Int => .agg #[I k.1, I k.2]) (fun x : Bool => .bool x) rq27_5_1 ((mzero : (Int × Int) → Option Bool)) :: MF (fun k : Int × Int => .agg #[I k.1, I k.2]) (fun x : Bool => .bool x) rq27_6_1 ((mzero : (Int × Int) → Option Bool)) :: SN 168 4 nT168 v9 hs10 (y12) :: Bx b8 165 [v9, I 0] :: Bx b4 75 [.slice none 0 0, .slice none 0 0, .slice none 0 0] :: L)) (listed' := #[true, true, true, true, true, true, true, true, false, true, false, false, false, false, false, false, false]) (by kernel_rfl) (by kernel_rfl) ?_
              exact TA.jump hSq27_14 (rq27_5_1, rq27_6_1) rfl (by kernel_rfl) ⟨rfl, rfl, rfl, rfl, rfl, rfl, rfl, rfl, rfl, rfl, rfl, rfl, trivial⟩ (fun _ s => Sat.by [4, 4, 4, 4, 4] 5 0 (by kernel_rfl) s)
            · refine TB.of rfl ?_
              refine TO.mkS (f := cI) (za := 0) kelemB_22_3_1_8_true kinfo_3_bind_zero_some_I_0 rfl (by decide) rfl rfl hkq27_8_2 rfl fun vq27_8_3 => ?_
              refine TA.back (.inr (fun _ s => Sat.by [4, 4] 2 3 (by kernel_rfl) s)) ?_
              refine TA.asL (L' := (OwnS 3 1 vq27_8_3 (yq27_8_1.map cI) :: MF (fun k : Int × Int => .agg #[I k.1, I k.2]) (fun x : Bool => .bool x) rq27_6_1 ((mzero : (Int × Int) → Option Bool)) :: SN 168 4 nT168 v9 hs10 (y12) :: Bx b8 165 [v9, I 0] :: Bx b4 75 [.slice none 0 0, .slice none 0 0, .slice none 0 0] :: L)) (listed' := #[true, true, true, true, true, false, true, true, true, true, false, false, false, false, false, false, false]) (by kernel_rfl) (by kernel_rfl) ?_
              exact TA.jump hSq27_13 (rq27_6_1, vq27_8_3) rfl (by kernel_rfl) ⟨rfl, rfl, rfl, rfl, rfl, rfl, rfl, rfl, rfl, rfl, rfl, trivial⟩ (fun _ s => Sat.by [4, 4, 4, 3, 4] 5 0 (by kernel_rfl) s)
            · refine TB.of rfl ?_
              refine TO.mkS (f := cI) (za := 0) kelemB_22_3_1_8_true kinfo_3_bind_zero_some_I_0 rfl (by decide) rfl rfl hkq27_10_2 rfl fun vq27_10_3 => ?_
              refine TA.back (.inr (fun _ s => Sat.by [4, 4] 2 3 (by kernel_rfl) s)) ?_
              refine TA.asL (L' := (OwnS 3 1 vq27_10_3 (yq27_10_1.map cI) :: MF (fun k : Int × Int => .agg #[I k.1, I k.2]) (fun x : Bool => .bool x) rq27_6_1 ((mzero : (Int × Int) → Option Bool)) :: SN 168 4 nT168 v9 hs10 (y12) :: Bx b8 165 [v9, I 0] :: Bx b4 75 [.slice none 0 0, .slice none 0 0, .slice none 0 0] :: L)) (listed' := #[true, true, true, true, true, false, true, true, false, true, true, false, false, false, false, false, false]) (by kernel_rfl) (by kernel_rfl) ?_
              exact TA.jump hSq27_10 (rq27_6_1, vq27_10_3) rfl (by kernel_rfl) ⟨rfl, rfl, rfl, rfl, rfl, rfl, rfl, rfl, rfl, rfl, rfl, trivial⟩ (fun _ s => Sat.by [4, 4, 4, 3, 4] 5 0 (by kernel_rfl) s)
          refine TA.lem (γ := Value) 9 #[true, true, true, true, true, false, false, true, true, true, false, false, false, false, false, false, false] (fun vq27_8_3 => [(0, I a0), (1, h1), (4, .pointer (some ⟨b4, 0, none⟩)), (6, .pointer (some ⟨b8, 0, none⟩)), (30, I a0), (31, I x13), (33, .pointer (some ⟨b8, 0, none⟩)), (37, v9), (41, vq27_8_3), (42, I a0)]) (fun vq27_8_3 => (OwnS 3 1 vq27_8_3 (yq27_8_1.map cI) :: SN 168 4 nT168 v9 hs10 (y12) :: Bx b8 165 [v9, I 0] :: Bx b4 75 [.slice none 0 0, .slice none 0 0, .slice none 0 0] :: L)) ?_ fun hSq27_17 => ?_
          · intro vq27_8_3
            refine TA.all3 (i := 5) (j := 6) (k := 10) (by kernel_rfl) ?_ ?_ ?_
            · refine TB.of rfl ?_
              refine TO.mkMF (kf := (fun k : Int × Int => .agg #[I k.1, I k.2])) (vf := (fun x : Bool => .bool x)) rfl fun rq27_5_1 => ?_
              refine TA.back (.inr (fun _ s => Sat.by [4, 4] 2 3 (by kernel_rfl) s)) ?_
              refine TA.asL (L' := (MF (fun k : Int × Int => .agg #[I k.1, I k.2]) (fun x : Bool => .bool x) rq27_5_1 ((mzero : (Int × Int) → Option Bool)) :: OwnS 3 1 vq27_8_3 (yq27_8_1.map cI) :: SN 168 4 nT168 v9 hs10 (y12) :: Bx b8 165 [v9, I 0] :: Bx b4 75 [.slice none 0 0, .slice none 0 0, .slice none 0 0] :: L)) (listed' := #[true, true, true, true, true, true, false, true, true, true, false, false, false, false, false, false, false]) (by kernel_rfl) (by kernel_rfl) ?_
              exact TA.jump hSq27_12 (rq27_5_1, vq27_8_3) rfl (by kernel_rfl) ⟨rfl, rfl, rfl, rfl, rfl, rfl, rfl, rfl, rfl, rfl, rfl, trivial⟩ (fun _ s => Sat.by [4, 4, 4, 4, 4] 5 0 (by kernel_rfl) s)
            · refine TB.of rfl ?_
              refine TO.mkMF (kf := (fun k : Int × Int => .agg #[I k.1, I k.2])) (vf := (fun x : Bool => .bool x)) rfl fun rq27_6_1 => ?_
              refine TA.back (.inr (fun _ s => Sat.by [4, 4] 2 3 (by kernel_rfl) s)) ?_
              refine TA.asL (L' := (MF (fun k : Int × Int => .agg #[I k.1, I k.2]) (fun x : Bool => .bool x) rq27_6_1 ((mzero : (Int × Int) → Option Bool)) :: OwnS 3 1 vq27_8_3 (yq27_8_1.map cI) :: SN 168 4 nT168 v9 hs10 (y12) :: Bx b8 165 [v9, I 0] :: Bx b4 75 [.slice none 0 0, .slice none 0 0, .slice none 0 0] :: L)) (listed' := #[true, true, true, true, true, false, true, true, true, true, false, false, false, false, false, false, false]) (by kernel_rfl) (by kernel_rfl) ?_
              exact TA.jump hSq27_13 (rq27_6_1, vq27_8_3) rfl (by kernel_rfl) ⟨rfl, rfl, rfl, rfl, rfl, rfl, rfl, rfl, rfl, rfl, rfl, trivial⟩ (fun _ s => Sat.by [4, 4, 4, 4, 4] 5 0 (by kernel_rfl) s)
            · refine TB.of rfl ?_
              refine TO.mkS (f := cI) (za := 0) kelemB_22_3_1_8_true kinfo_3_bind_zero_some_I_0 rfl (by decide) rfl rfl hkq27_10_2 rfl fun vq27_10_3 => ?_
              refine TA.back (.inr (fun _ s => Sat.by [4, 4] 2 3 (by kernel_rfl) s)) ?_
              refine TA.asL (L' := (OwnS 3 1 vq27_10_3 (yq27_10_1.map cI) :: OwnS 3 1 vq27_8_3 (yq27_8_1.map cI) :: SN 168 4 nT168 v9 hs10 (y12) :: Bx b8 165 [v9, I 0] :: Bx b4 75 [.slice none 0 0, .slice none 0 0, .slice none 0 0] :: L)) (listed' := #[true, true, true, true, true, false, false, true, true, true, true, false, false, false, false, false, false]) (by kernel_rfl) (by kernel_rfl) ?_
              exact TA.jump hSq27_11 (vq27_8_3, vq27_10_3) rfl (by kernel_rfl) ⟨rfl, rfl, rfl, rfl, rfl, rfl, rfl, rfl, rfl, rfl, trivial⟩ (fun _ s => Sat.by [4, 4, 4, 3, 4] 5 0 (by kernel_rfl) s)
          refine TA.lem (γ := Value) 9 #[true, true, true, true, true, false, false, true, false, true, true, false, false, false, false, false, false] (fun vq27_10_3 => [(0, I a0), (1, h1), (4, .pointer (some ⟨b4, 0, none⟩)), (6, .pointer (some ⟨b8, 0, none⟩)), (30, I a0), (31, I x13), (33, .pointer (some ⟨b8, 0, none⟩)), (37, v9), (40, I a0), (43, vq27_10_3)]) (fun vq27_10_3 => (OwnS 3 1 vq27_10_3 (yq27_10_1.map cI) :: SN 168 4 nT168 v9 hs10 (y12) :: Bx b8 165 [v9, I 0] :: Bx b4 75 [.slice none 0 0, .slice none 0 0, .slice none 0 0] :: L)) ?_ fun hSq27_18 => ?_
          · intro vq27_10_3
            refine TA.all3 (i := 5) (j := 6) (k := 8) (by kernel_rfl) ?_ ?_ ?_
            · refine TB.of rfl ?_
              refine TO.mkMF (kf := (fun k : Int × Int => .agg #[I k.1, I k.2])) (vf := (fun x : Bool => .bool x)) rfl fun rq27_5_1 => ?_
              refine TA.back (.inr (fun _ s => Sat.by [4, 4] 2 3 (by kernel_rfl) s)) ?_
              refine TA.asL (L' := (MF (fun k : Int × Int => .agg #[I k.1, I k.2]) (fun x : Bool => .bool x) rq27_5_1 ((mzero : (Int × Int) → Option Bool)) :: OwnS 3 1 vq27_10_3 (yq27_10_1.map cI) :: SN 168 4 nT168 v9 hs10 (y12) :: Bx b8 165 [v9, I 0] :: Bx b4 75 [.slice none 0 0, .slice none 0 0, .slice none 0 0] :: L)) (listed' := #[true, true, true, true, true, true, false, true, false, true, true, false, false, false, false, false, false]) (by kernel_rfl) (by kernel_rfl) ?_
              exact TA.jump hSq27_9 (rq27_5_1, vq27_10_3) rfl (by kernel_rfl) ⟨rfl, rfl, rfl, rfl, rfl, rfl, rfl, rfl, rfl, rfl, rfl, trivial⟩ (fun _ s => Sat.by [4, 4, 4, 4, 4] 5 0 (by kernel_rfl) s)
            · refine TB.of rfl ?_
              refine TO.mkMF (kf := (fun k : Int × Int => .agg #[I k.1, I k.2])) (vf := (fun x : Bool => .bool x)) rfl fun rq27_6_1 => ?_
              refine TA.back (.inr (fun _ s => Sat.by [4, 4] 2 3 (by kernel_rfl) s)) ?_
              refine TA.asL (L' := (MF (fun k : Int × Int => .agg #[I k.1, I k.2]) (fun x : Bool => .bool x) rq27_6_1 ((mzero : (Int × Int) → Option Bool)) :: OwnS 3 1 vq27_10_3 (yq27_10_1.map cI) :: SN 168 4 nT168 v9 hs10 (y12) :: Bx b8 165 [v9, I 0] :: Bx b4 75 [.slice none 0 0, .slice none 0 0, .slice none 0 0] :: L)) (listed' := #[true, true, true, true, true, false, true, true, false, true, true, false, false, false, false, false, false]) (by kernel_rfl) (by kernel_rfl) ?_
              exact TA.jump hSq27_10 (rq27_6_1, vq27_10_3) rfl (by kernel_rfl) ⟨rfl, rfl, rfl, rfl, rfl, rfl, rfl, rfl, rfl, rfl, rfl, trivial⟩ (fun _ s => Sat.by [4, 4, 4, 4, 4] 5 0 (by kernel_rfl) s)
            · refine TB.of rfl ?_
              refine TO.mkS (f := cI) (za := 0) kelemB_22_3_1_8_true kinfo_3_bind_zero_some_I_0 rfl (by decide) rfl rfl hkq27_8_2 rfl fun vq27_8_3 => ?_
              refine TA.back (.inr (fun _ s => Sat.by [4, 4] 2 3 (by kernel_rfl) s)) ?_
              refine TA.asL (L' := (OwnS 3 1 vq27_8_3 (yq27_8_1.map cI) :: OwnS 3 1 vq27_10_3 (yq27_10_1.map cI) :: SN 168 4 nT168 v9 hs10 (y12) :: Bx b8 165 [v9, I 0] :: Bx b4 75 [.slice none 0 0, .slice none 0 0, .slice none 0 0] :: L)) (listed' := #[true, true, true, true, true, false, false, true, true, true, true, false, false, false, false, false, false]) (by kernel_rfl) (by kernel_rfl) ?_
              exact TA.jump hSq27_11 (vq27_8_3, vq27_10_3) rfl (by kernel_rfl) ⟨rfl, rfl, rfl, rfl, rfl, rfl, rfl, rfl, rfl, rfl, trivial⟩ (fun _ s => Sat.by [4, 4, 4, 4, 4] 5 0 (by kernel_rfl) s)
          refine TA.all4 (i := 5) (j := 6) (k := 8) (m := 10) (by kernel_rfl) ?_ ?_ ?_ ?_
          · refine TB.of rfl ?_
            refine TO.mkMF (kf := (fun k : Int × Int => .agg #[I k.1, I k.2])) (vf := (fun x : Bool => .bool x)) rfl fun rq27_5_1 => ?_
            refine TA.back (.inr (fun _ s => Sat.by [3, 3] 2 2 (by kernel_rfl) s)) ?_
            refine TA.asL (L' := (MF (fun k : Int × Int => .agg #[I k.1, I k.2]) (fun x : Bool => .bool x) rq27_5_1 ((mzero : (Int × Int) → Option Bool)) :: SN 168 4 nT168 v9 hs10 (y12) :: Bx b8 165 [v9, I 0] :: Bx b4 75 [.slice none 0 0, .slice none 0 0, .slice none 0 0] :: L)) (listed' := #[true, true, true, true, true, true, false, true, false, true, false, false, false, false, false, false, false]) (by kernel_rfl) (by kernel_rfl) ?_
            exact TA.jump hSq27_15 rq27_5_1 rfl (by kernel_rfl) ⟨rfl, rfl, rfl, rfl, rfl, rfl, rfl, rfl, rfl, rfl, rfl, trivial⟩ (fun _ s => Sat.by [3, 3, 3, 3] 4 0 (by kernel_rfl) s)
          · refine TB.of rfl ?_
            refine TO.mkMF (kf := (fun k : Int × Int => .agg #[I k.1, I k.2])) (vf := (fun x : Bool => .bool x)) rfl fun rq27_6_1 => ?_
            refine TA.back (.inr (fun _ s => Sat.by [3, 3] 2 2 (by kernel_rfl) s)) ?_
            refine TA.asL (L' := (MF (fun k : Int × Int => .agg #[I k.1, I k.2]) (fun x : Bool => .bool x) rq27_6_1 ((mzero : (Int × Int) → Option Bool)) :: SN 168 4 nT168 v9 hs10 (y12) :: Bx b8 165 [v9, I 0] :: Bx b4 75 [.slice none 0 0, .slice none 0 0, .slice none 0 0] :: L)) (listed' := #[true, true, true, true, true, false, true, true, false, true, false, false, false, false, false, false, false]) (by kernel_rfl) (by kernel_rfl) ?_
            exact TA.jump hSq27_16 rq27_6_1 rfl (by kernel_rfl) ⟨rfl, rfl, rfl, rfl, rfl, rfl, rfl, rfl, rfl, rfl, rfl, trivial⟩ (fun _ s => Sat.by [3, 3, 3, 3] 4 0 (by kernel_rfl) s)
          · refine TB.of rfl ?_
            refine TO.mkS (f := cI) (za := 0) kelemB_22_3_1_8_true kinfo_3_bind_zero_some_I_0 rfl (by decide) rfl rfl hkq27_8_2 rfl fun vq27_8_3 => ?_
            refine TA.back (.inr (fun _ s => Sat.by [3, 3] 2 2 (by kernel_rfl) s)) ?_
            refine TA.asL (L' := (OwnS 3 1 vq27_8_3 (yq27_8_1.map cI) :: SN 168 4 nT168 v9 hs10 (y12) :: Bx b8 165 [v9, I 0] :: Bx b4 75 [.slice none 0 0, .slice none 0 0, .slice none 0 0] :: L)) (listed' := #[true, true, true, true, true, false, false, true, true, true, false, false, false, false, false, false, false]) (by kernel_rfl) (by kernel_rfl) ?_
            exact TA.jump hSq27_17 vq27_8_3 rfl (by kernel_rfl) ⟨rfl, rfl, rfl, rfl, rfl, rfl, rfl, rfl, rfl, rfl, trivial⟩ (fun _ s => Sat.by [3, 3, 3, 3] 4 0 (by kernel_rfl) s)
          · refine TB.of rfl ?_
            refine TO.mkS (f := cI) (za := 0) kelemB_22_3_1_8_true kinfo_3_bind_zero_some_I_0 rfl (by decide) rfl rfl hkq27_10_2 rfl fun vq27_10_3 => ?_
            refine TA.back (.inr (fun _ s => Sat.by [3, 3] 2 2 (by kernel_rfl) s)) ?_
            refine TA.asL (L' := (OwnS 3 1 vq27_10_3 (yq27_10_1.map cI) :: SN 168 4 nT168 v9 hs10 (y12) :: Bx b8 165 [v9, I 0] :: Bx b4 75 [.slice none 0 0, .slice none 0 0, .slice none 0 0] :: L)) (listed' := #[true, true, true, true, true, false, false, true, false, true, true, false, false, false, false, false, false]) (by kernel_rfl) (by kernel_rfl) ?_
            exact TA.jump hSq27_18 vq27_10_3 rfl (by kernel_rfl) ⟨rfl, rfl, rfl, rfl, rfl, rfl, rfl, rfl, rfl, rfl, trivial⟩ (fun _ s => Sat.by [3, 3, 3, 3] 4 0 (by kernel_rfl) s)
        · intro a w ⟨v29, hs30, he, hs⟩
          refine TC.use ?_ he hs
          refine TC.region ?_
          refine TO.s rfl rfl rfl (StepS.ari rfl rfl rfl) ?_
          refine TO.s rfl rfl rfl (StepS.move rfl) ?_
          cases hb25
          refine TO.nil fun a w e s => ?_
          exact ⟨v29, hs30, e.sub (lk_of_allIn ⟨rfl, rfl, rfl, rfl, rfl, rfl, trivial⟩), s⟩
      · replace hb25 := cond_f hc26 hb25
        cases hb25
        refine TC.exit rfl fun a w e s => ?_
        exact ⟨v9, hs10, e.sub (lk_of_allIn ⟨rfl, rfl, rfl, rfl, trivial⟩), s⟩
    · exact fun a w e s => ⟨.slice none 0 0, [], e.sub (lk_of_allIn ⟨rfl, rfl, rfl, rfl, rfl, rfl, trivial⟩), s.mono fun _ s => (by replace s := Sat.nilSN (e := 168) (sz := 4) (T := nT168) s; exact Sat.by [2, 2, 2] 3 0 (by kernel_rfl) s)⟩
    · rintro y22 rfl a w ⟨v19, hs20, he, hs⟩
      dsimp only [Ctl.on] at hm
      refine TC.use ?_ he hs
      refine TC.k ?_
      refine TC.region ?_
      refine TO.alloc kinfo_75_bind_zero_some_agg_slice_none_0_0_slice_none_0_0_slice_none_0_0 rfl rfl fun b32 => ?_
      refine TO.code ?_
      refine TC.k ?_
      refine TC.k ?_
      refine TC.region ?_
      refine TO.s rfl rfl rfl (StepS.move rfl) ?_
      refine TO.s rfl rfl rfl (StepS.lenm rfl e1.tl.tl.tl.tl ksliceB_23_106_4_true rfl) ?_
      refine TO.s rfl rfl rfl (StepS.move rfl) ?_
      refine TO.code ?_
      obtain ⟨o53, hw54, hm⟩ := bind_some hm
      refine TC.loop hw54 (fun (y35, y36, x38, x39) => fun a w => ∃ v33 : Value, ∃ hs37 : List (List Value), Mid 119 B [(0, I a0), (4, .pointer (some ⟨b4, 0, none⟩)), (6, .pointer (some ⟨b8, 0, none⟩)), (7, .pointer (some ⟨b32, 0, none⟩)), (50, h1), (51, I (a1.length : Int)), (52, I x39)] (OwnS 28 1 v33 (y35.map cI) :: Bx b32 75 [v33, .slice none 0 0, .slice none 0 0] :: SN 168 4 nT168 v19 hs37 (y36) :: Bx b8 165 [v19, I x38] :: Bx b4 75 [.slice none 0 0, .slice none 0 0, .slice none 0 0] :: L) a w) (fun (y49, y50, x52) => fun a w => ∃ v47 : Value, ∃ hs51 : List (List Value), Mid 119 B [(0, I a0), (4, .pointer (some ⟨b4, 0, none⟩)), (6, .pointer (some ⟨b8, 0, none⟩)), (7, .pointer (some ⟨b32, 0, none⟩))] (OwnS 28 1 v47 (y49.map cI) :: Bx b32 75 [v47, .slice none 0 0, .slice none 0 0] :: SN 168 4 nT168 v19 hs51 (y50) :: Bx b8 165 [v19, I x52] :: Bx b4 75 [.slice none 0 0, .slice none 0 0, .slice none 0 0] :: L) a w) (fun (_ : Unit) _ _ => False) ?_ ?_ ?_ ?_
      · rintro ⟨y35, y36, x38, x39⟩ o53r hb55 a w ⟨v33, hs37, he, hs⟩
        dsimp only [F36_L1] at hb55
        refine TC.use ?_ he hs
        refine TC.k ?_
        refine TC.region ?_
        refine TO.s rfl rfl rfl (StepS.cmp rfl rfl rfl) ?_
        refine TO.code ?_
        refine TC.k ?_
        refine TC.cond rfl (fun hc56 => ?_) (fun hc56 => ?_)
        · replace hb55 := cond_t hc56 hb55
          refine TC.skipk ?_
          refine TC.k ?_
          refine TC.block ?_
          refine TC.k ?_
          refine TC.region ?_
          obtain ⟨x57, hx58, hb55⟩ := bind_some hb55
          refine TO.s rfl rfl rfl (StepS.idx rfl rfl e1.tl.tl.tl.tl.tl ksliceB_23_106_4_true (idx_spec hx58).1 (idxm_lt hx58)) ?_
          refine TO.s rfl rfl rfl (StepS.ldE rfl e1.tl.tl.tl.tl.tl kaggB_106_4_true rfl (idxm hx58)) ?_
          refine TO.alloc kinfo_106_bind_zero_some_agg_I_0_I_0_I_0_I_0 rfl rfl fun b59 => ?_
          refine TO.stB (us := [I x57.1, I x57.2.1, I x57.2.2.1, I x57.2.2.2]) 0 [I x57.1, I x57.2.1, I x57.2.2.1, I x57.2.2.2] rfl rfl rfl ksizeB_106_4_true rfl rfl rfl (by simp [Value.oneCell']) rfl ?_
          refine TO.code ?_
          refine TC.region_any (Bx b59 106 [I x57.1, I x57.2.1, I x57.2.2.1, I x57.2.2.2] :: Bx b32 75 [v33, .slice none 0 0, .slice none 0 0] :: Bx b4 75 [.slice none 0 0, .slice none 0 0, .slice none 0 0] :: L) 8 9 kfollows_mixedOrders_true rfl ?_
          refine TA.takeW 0 rfl rfl rfl rfl (StepS.fld rfl kfieldB_75_0_0_true) (by kernel_rfl) (by kernel_rfl) (by kernel_rfl) rfl (.inr (fun _ s => Sat.by [5, 3, 2] 3 3 (by kernel_rfl) s)) ?_
          refine TA.take 1 rfl rfl rfl rfl (StepS.ldB rfl (Ent.at 1 rfl) kscalB_24_true rfl) (by kernel_rfl) (by kernel_rfl) (by kernel_rfl) (by kernel_rfl) (by kernel_rfl) (fun _ s => Sat.by [5, 3, 2] 3 3 (by kernel_rfl) s) ?_
          refine TA.takeW 2 rfl rfl rfl rfl (StepS.move rfl) (by kernel_rfl) (by kernel_rfl) (by kernel_rfl) rfl (.inr (fun _ s => Sat.by [5, 3, 2] 3 3 (by kernel_rfl) s)) ?_
          refine TA.take 3 rfl rfl rfl rfl (StepS.ldBA rfl (Ent.at 0 rfl) kaggB_106_4_true rfl rfl) (by kernel_rfl) (by kernel_rfl) (by kernel_rfl) (by kernel_rfl) (by kernel_rfl) (fun _ s => Sat.by [5, 3, 2] 3 3 (by kernel_rfl) s) ?_
          refine TA.all1 (i := 4) (by kernel_rfl) ?_
          refine TB.of rfl ?_
          refine TO.ghost (fun _ s => Sat.front 3 rfl s) ?_
          refine TO.ghost (fun _ s => Sat.front 4 rfl s) ?_
          obtain ⟨⟨rq60_4_1, rq60_4_2⟩, hcq60_4_3, hb55⟩ := bind_some hb55
          refine TO.callO kcallB_68_true rfl rfl rfl (fun _ st => C68 (a0 := (y36, x38))  hcq60_4_3 st) ?_
          rintro _ _ ⟨hsq60_4_4, rfl, rfl⟩
          refine TA.back (.inr (fun _ s => Sat.by [5, 5, 4] 3 3 (by kernel_rfl) s)) ?_
          refine TA.asL (L' := (Bx b8 165 [v19, I rq60_4_2.2] :: SN 168 4 nT168 v19 hsq60_4_4 (rq60_4_2.1) :: Bx b59 106 [I x57.1, I x57.2.1, I x57.2.2.1, I x57.2.2.2] :: OwnS 28 1 v33 (y35.map cI) :: Bx b32 75 [v33, .slice none 0 0, .slice none 0 0] :: Bx b4 75 [.slice none 0 0, .slice none 0 0, .slice none 0 0] :: L)) (listed' := #[true, true, true, true, true, false, false, false, false]) (by kernel_rfl) (by kernel_rfl) ?_
          refine TA.all1 (i := 5) (by kernel_rfl) ?_
          refine TB.of rfl ?_
          refine TO.litS (f := cI) ([rq60_4_1] : List Int) kelemB_24_28_1_8_true kinfo_28_bind_zero_some_I_0 rfl rfl (fun _ => rfl) rfl rfl (by kernel_rfl) rfl fun vq60_5_1 => ?_
          refine TA.back (.inr (fun _ s => Sat.by [6, 6, 5] 3 4 (by kernel_rfl) s)) ?_
          refine TA.asL (L' := (OwnS 28 1 vq60_5_1 (([rq60_4_1] : List Int).map cI) :: Bx b8 165 [v19, I rq60_4_2.2] :: SN 168 4 nT168 v19 hsq60_4_4 (rq60_4_2.1) :: Bx b59 106 [I x57.1, I x57.2.1, I x57.2.2.1, I x57.2.2.2] :: OwnS 28 1 v33 (y35.map cI) :: Bx b32 75 [v33, .slice none 0 0, .slice none 0 0] :: Bx b4 75 [.slice none 0 0, .slice none 0 0, .slice none 0 0] :: L)) (listed' := #[true, true, true, true, true, true, false, false, false]) (by kernel_rfl) (by kernel_rfl) ?_
          refine TA.all1 (i := 6) (by kernel_rfl) ?_
          refine TB.of rfl ?_
          obtain ⟨yq60_6_1, hkq60_6_2, hb55⟩ := bind_some hb55
          refine TO.app (k := 4) (f := cI) kelemB_24_28_1_8_true (by decide) rfl rfl rfl (OwnS.rd (Ent.at 0 rfl)) hkq60_6_2 (fun x c hc => by simp [Value.oneCell'] at hc ⊢; first | (obtain rfl := hc; rfl) | (rcases hc with rfl <;> rfl)) rfl rfl fun vq60_6_3 => ?_
          refine TA.back (.inr (fun _ s => Sat.by [6, 6, 5] 3 4 (by kernel_rfl) s)) ?_
          refine TA.asL (L' := (OwnS 28 1 vq60_5_1 (([rq60_4_1] : List Int).map cI) :: Bx b8 165 [v19, I rq60_4_2.2] :: SN 168 4 nT168 v19 hsq60_4_4 (rq60_4_2.1) :: Bx b59 106 [I x57.1, I x57.2.1, I x57.2.2.1, I x57.2.2.2] :: OwnS 28 1 vq60_6_3 (yq60_6_1.map cI) :: Bx b32 75 [v33, .slice none 0 0, .slice none 0 0] :: Bx b4 75 [.slice none 0 0, .slice none 0 0, .slice none 0 0] :: L)) (listed' := #[true, true, true, true, true, true, true, false, false]) (by kernel_rfl) (by kernel_rfl) ?_
          refine TA.takeW 7 rfl rfl rfl rfl (StepS.fld rfl kfieldB_75_0_0_true) (by kernel_rfl) (by kernel_rfl) (by kernel_rfl) rfl (.inr (fun _ s => Sat.by [6, 6, 5] 3 4 (by kernel_rfl) s)) ?_
          refine TA.all1 (i := 8) (by kernel_rfl) ?_
          refine TB.of rfl ?_
          refine TO.pure (fun _ s => Rd.one (OwnS.rd (Ent.at 4 rfl)) s) fun ocq60_8_1 => ?_
          refine TO.stB (us := [vq60_6_3]) 5 [vq60_6_3, .slice none 0 0, .slice none 0 0] rfl rfl rfl ksizeB_24_1_true ocq60_8_1.2 rfl rfl (by intro u hu; simp only [List.mem_cons, List.not_mem_nil, or_false] at hu; rcases hu with rfl <;> first | exact ocq60_8_1.1 | rfl) rfl ?_
          refine TA.back (.inl (by kernel_rfl)) ?_
          refine TA.asL (L' := (OwnS 28 1 vq60_5_1 (([rq60_4_1] : List Int).map cI) :: Bx b8 165 [v19, I rq60_4_2.2] :: SN 168 4 nT168 v19 hsq60_4_4 (rq60_4_2.1) :: Bx b59 106 [I x57.1, I x57.2.1, I x57.2.2.1, I x57.2.2.2] :: OwnS 28 1 vq60_6_3 (yq60_6_1.map cI) :: Bx b32 75 [vq60_6_3, .slice none 0 0, .slice none 0 0] :: Bx b4 75 [.slice none 0 0, .slice none 0 0, .slice none 0 0] :: L)) (listed' := #[true, true, true, true, true, true, true, true, true]) (by kernel_rfl) (by kernel_rfl) ?_
          refine TA.code (by kernel_rfl) ?_
          refine TC.region ?_
          refine TO.s rfl rfl rfl (StepS.ari rfl rfl rfl) ?_
          refine TO.s rfl rfl rfl (StepS.move rfl) ?_
          cases hb55
          refine TO.nil fun a w e s => ?_
          exact ⟨vq60_6_3, hsq60_4_4, e.sub (lk_of_allIn ⟨rfl, rfl, rfl, rfl, rfl, rfl, rfl, trivial⟩), s.mono fun _ s => (by exact Sat.by [6, 2, 3, 6, 6] 5 2 (by kernel_rfl) s)⟩
        · replace hb55 := cond_f hc56 hb55
          cases hb55
          refine TC.exit rfl fun a w e s => ?_
          exact ⟨v33, hs37, e.sub (lk_of_allIn ⟨rfl, rfl, rfl, rfl, trivial⟩), s⟩
      · exact fun a w e s => ⟨.slice none 0 0, hs20, e.sub (lk_of_allIn ⟨rfl, rfl, rfl, rfl, rfl, rfl, rfl, trivial⟩), s.mono fun _ s => (by replace s := Sat.nilS (e := 28) (sz := 1) (f := cI) s; exact Sat.by [4, 4, 4, 4, 4] 5 0 (by kernel_rfl) s)⟩
      · rintro ⟨y49, y50, x52⟩ rfl a w ⟨v47, hs51, he, hs⟩
        dsimp only [Ctl.on] at hm
        refine TC.use ?_ he hs
        refine TC.k ?_
        refine TC.k ?_
        refine TC.region ?_
        refine TO.s rfl rfl rfl (StepS.move rfl) ?_
        refine TO.s rfl rfl rfl (StepS.nilc rfl) ?_
        refine TO.s rfl rfl rfl (StepS.fld rfl kfieldB_165_0_0_true) ?_
        refine TO.s rfl rfl rfl (StepS.ldB rfl (Ent.at 3 rfl) kscalB_163_true rfl) ?_
        refine TO.s rfl rfl rfl (StepS.lenN rfl (Ent.at 2 rfl) ksliceB_163_168_4_true rfl) ?_
        refine TO.s rfl rfl rfl (StepS.move rfl) ?_
        refine TO.code ?_
        obtain ⟨o84, hw85, hm⟩ := bind_some hm
        refine TC.loop hw85 (fun (y64, y67, x68) => fun a w => ∃ v61 : Value, ∃ hs62 : List Value, ∃ v65 : Value, Mid 119 B [(0, I a0), (4, .pointer (some ⟨b4, 0, none⟩)), (7, .pointer (some ⟨b32, 0, none⟩)), (68, v19), (69, I (y50.length : Int)), (70, I x68)] (SS 22 3 1 cI v61 hs62 (y64) :: OwnS 3 1 v65 (y67.map cI) :: OwnS 28 1 v47 (y49.map cI) :: Bx b32 75 [v47, v61, v65] :: SN 168 4 nT168 v19 hs51 (y50) :: Bx b8 165 [v19, I x52] :: Bx b4 75 [.slice none 0 0, .slice none 0 0, .slice none 0 0] :: L) a w) (fun (y80, y83) => fun a w => ∃ v77 : Value, ∃ hs78 : List Value, ∃ v81 : Value, Mid 119 B [(4, .pointer (some ⟨b4, 0, none⟩)), (7, .pointer (some ⟨b32, 0, none⟩))] (SS 22 3 1 cI v77 hs78 (y80) :: OwnS 3 1 v81 (y83.map cI) :: OwnS 28 1 v47 (y49.map cI) :: Bx b32 75 [v47, v77, v81] :: SN 168 4 nT168 v19 hs51 (y50) :: Bx b8 165 [v19, I x52] :: Bx b4 75 [.slice none 0 0, .slice none 0 0, .slice none 0 0] :: L) a w) (fun (_ : Unit) _ _ => False) ?_ ?_ ?_ ?_
        · rintro ⟨y64, y67, x68⟩ o84r hb86 a w ⟨v61, hs62, v65, he, hs⟩
          dsimp only [F36_L2] at hb86
          refine TC.use ?_ he hs
          refine TC.k ?_
          refine TC.region ?_
          refine TO.s rfl rfl rfl (StepS.cmp rfl rfl rfl) ?_
          refine TO.code ?_
          refine TC.k ?_
          refine TC.cond rfl (fun hc87 => ?_) (fun hc87 => ?_)
          · replace hb86 := cond_t hc87 hb86
            refine TC.skipk ?_
            refine TC.k ?_
            refine TC.block ?_
            refine TC.k ?_
            refine TC.region ?_
            obtain ⟨x88, hx89, hb86⟩ := bind_some hb86
            refine TO.s rfl rfl rfl (StepS.idxN rfl rfl (Ent.at 4 rfl) ksliceB_163_168_4_true hx89) ?_
            refine TO.s rfl rfl rfl (StepS.ldNE (cs := [.map (some (mv (cv (gr hs51 x68.toNat) 0))), .map (some (mv (cv (gr hs51 x68.toNat) 1))), (cv (gr hs51 x68.toNat) 2), (cv (gr hs51 x68.toNat) 3)]) rfl (Ent.at 4 rfl) kaggB_168_4_true hx89 rfl rfl) ?_
            refine TO.alloc kinfo_168_bind_zero_some_agg_map_none_map_none_slice_none_0_0_slice_none_0_0 rfl rfl fun b92 => ?_
            refine TO.pure (fun _ s => Rd.one (OwnS.rd (SN.piece (Ent.at 5 rfl) hx89 2 rfl)) s) fun oc93 => ?_
            refine TO.pure (fun _ s => Rd.one (OwnS.rd (SN.piece (Ent.at 5 rfl) hx89 3 rfl)) s) fun oc94 => ?_
            refine TO.stB (us := [.map (some (mv (cv (gr hs51 x68.toNat) 0))), .map (some (mv (cv (gr hs51 x68.toNat) 1))), (cv (gr hs51 x68.toNat) 2), (cv (gr hs51 x68.toNat) 3)]) 0 [.map (some (mv (cv (gr hs51 x68.toNat) 0))), .map (some (mv (cv (gr hs51 x68.toNat) 1))), (cv (gr hs51 x68.toNat) 2), (cv (gr hs51 x68.toNat) 3)] rfl rfl rfl ksizeB_168_4_true rfl rfl rfl (by intro u hu; simp only [List.mem_cons, List.not_mem_nil, or_false] at hu; rcases hu with rfl | rfl | rfl | rfl <;> first | exact oc93.1 | exact oc94.1 | rfl) rfl ?_
            refine TO.code ?_
            refine TC.k ?_
            refine TC.region ?_
            refine TO.s rfl rfl rfl (StepS.assign rfl) ?_
            refine TO.code ?_
            refine TC.k ?_
            refine TC.k ?_
            refine TC.region ?_
            refine TO.s rfl rfl rfl (StepS.move rfl) ?_
            refine TO.code ?_
            obtain ⟨o106, hw107, hb86⟩ := bind_some hb86
            refine TC.loop hw107 (fun (y97, x98) => fun a w => ∃ v95 : Value, Mid 119 B [(0, I a0), (4, .pointer (some ⟨b4, 0, none⟩)), (7, .pointer (some ⟨b32, 0, none⟩)), (11, .pointer (some ⟨b92, 0, none⟩)), (12, v95), (68, v19), (69, I (y50.length : Int)), (70, I x68), (74, I x98)] (OwnS 3 1 v95 (y97.map cI) :: Bx b92 168 [.map (some (mv (cv (gr hs51 x68.toNat) 0))), .map (some (mv (cv (gr hs51 x68.toNat) 1))), (cv (gr hs51 x68.toNat) 2), (cv (gr hs51 x68.toNat) 3)] :: SS 22 3 1 cI v61 hs62 (y64) :: OwnS 3 1 v65 (y67.map cI) :: OwnS 28 1 v47 (y49.map cI) :: Bx b32 75 [v47, v61, v65] :: SN 168 4 nT168 v19 hs51 (y50) :: Bx b8 165 [v19, I x52] :: Bx b4 75 [.slice none 0 0, .slice none 0 0, .slice none 0 0] :: L) a w) (fun y105 => fun a w => ∃ v103 : Value, Mid 119 B [(0, I a0), (4, .pointer (some ⟨b4, 0, none⟩)), (7, .pointer (some ⟨b32, 0, none⟩)), (11, .pointer (some ⟨b92, 0, none⟩)), (12, v103), (68, v19), (69, I (y50.length : Int)), (70, I x68)] (OwnS 3 1 v103 (y105.map cI) :: Bx b92 168 [.map (some (mv (cv (gr hs51 x68.toNat) 0))), .map (some (mv (cv (gr hs51 x68.toNat) 1))), (cv (gr hs51 x68.toNat) 2), (cv (gr hs51 x68.toNat) 3)] :: SS 22 3 1 cI v61 hs62 (y64) :: OwnS 3 1 v65 (y67.map cI) :: OwnS 28 1 v47 (y49.map cI) :: Bx b32 75 [v47, v61, v65] :: SN 168 4 nT168 v19 hs51 (y50) :: Bx b8 165 [v19, I x52] :: Bx b4 75 [.slice none 0 0, .slice none 0 0, .slice none 0 0] :: L) a w) (fun (_ : Unit) _ _ => False) ?_ ?_ ?_ ?_
            · rintro ⟨y97, x98⟩ o106r hb108 a w ⟨v95, he, hs⟩
              dsimp only [F36_L3] at hb108
              refine TC.use ?_ he hs
              refine TC.k ?_
              refine TC.region ?_
              refine TO.s rfl rfl rfl (StepS.cmp rfl rfl rfl) ?_
              refine TO.code ?_
              refine TC.k ?_
              refine TC.cond rfl (fun hc109 => ?_) (fun hc109 => ?_)
              · replace hb108 := cond_t hc109 hb108
                refine TC.skipk ?_
                refine TC.k ?_
                obtain ⟨y110, hj112, hb108⟩ := bind_some hb108
                first | refine TC.cutM (fun a w => ∃ v111 : Value, Mid 119 B [(0, I a0), (4, .pointer (some ⟨b4, 0, none⟩)), (7, .pointer (some ⟨b32, 0, none⟩)), (11, .pointer (some ⟨b92, 0, none⟩)), (12, v111), (68, v19), (69, I (y50.length : Int)), (70, I x68), (74, I x98)] (OwnS 3 1 v111 (y110.map cI) :: Bx b92 168 [.map (some (mv (cv (gr hs51 x68.toNat) 0))), .map (some (mv (cv (gr hs51 x68.toNat) 1))), (cv (gr hs51 x68.toNat) 2), (cv (gr hs51 x68.toNat) 3)] :: SS 22 3 1 cI v61 hs62 (y64) :: OwnS 3 1 v65 (y67.map cI) :: OwnS 28 1 v47 (y49.map cI) :: Bx b32 75 [v47, v61, v65] :: SN 168 4 nT168 v19 hs51 (y50) :: Bx b8 165 [v19, I x52] :: Bx b4 75 [.slice none 0 0, .slice none 0 0, .slice none 0 0] :: L) a w) ?_ ?_ | refine TC.cutX (fun a w => ∃ v111 : Value, Mid 119 B [(0, I a0), (4, .pointer (some ⟨b4, 0, none⟩)), (7, .pointer (some ⟨b32, 0, none⟩)), (11, .pointer (some ⟨b92, 0, none⟩)), (12, v111), (68, v19), (69, I (y50.length : Int)), (70, I x68), (74, I x98)] (OwnS 3 1 v111 (y110.map cI) :: Bx b92 168 [.map (some (mv (cv (gr hs51 x68.toNat) 0))), .map (some (mv (cv (gr hs51 x68.toNat) 1))), (cv (gr hs51 x68.toNat) 2), (cv (gr hs51 x68.toNat) 3)] :: SS 22 3 1 cI v61 hs62 (y64) :: OwnS 3 1 v65 (y67.map cI) :: OwnS 28 1 v47 (y49.map cI) :: Bx b32 75 [v47, v61, v65] :: SN 168 4 nT168 v19 hs51 (y50) :: Bx b8 165 [v19, I x52] :: Bx b4 75 [.slice none 0 0, .slice none 0 0, .slice none 0 0] :: L) a w) ?_ ?_
                · refine TC.block ?_
                  refine TC.k ?_
                  refine TC.region ?_
                  refine TO.s rfl rfl rfl (StepS.move rfl) ?_
                  refine TO.s rfl rfl rfl (StepS.assign rfl) ?_
                  refine TO.code ?_
                  refine TC.k ?_
                  refine TC.region ?_
                  refine TO.s rfl rfl rfl (StepS.move rfl) ?_
                  refine TO.ghost (fun _ s => Sat.front 6 rfl s) ?_
                  refine TO.openN (L' := (MF (fun k : Int × Int => .agg #[I k.1, I k.2]) (fun x : Bool => .bool x) (mv (cv (gr hs51 x68.toNat) 0)) (x88.1) :: MF (fun k : Int × Int => .agg #[I k.1, I k.2]) (fun x : Bool => .bool x) (mv (cv (gr hs51 x68.toNat) 1)) (x88.2.1) :: OwnS 3 1 (cv (gr hs51 x68.toNat) 2) (x88.2.2.1.map cI) :: OwnS 3 1 (cv (gr hs51 x68.toNat) 3) (x88.2.2.2.map cI) :: SNh 168 4 nT168 v19 hs51 (y50) x68.toNat [.map (some (mv (cv (gr hs51 x68.toNat) 0))), .map (some (mv (cv (gr hs51 x68.toNat) 1))), (cv (gr hs51 x68.toNat) 2), (cv (gr hs51 x68.toNat) 3)] :: OwnS 3 1 v95 (y97.map cI) :: Bx b92 168 [.map (some (mv (cv (gr hs51 x68.toNat) 0))), .map (some (mv (cv (gr hs51 x68.toNat) 1))), (cv (gr hs51 x68.toNat) 2), (cv (gr hs51 x68.toNat) 3)] :: SS 22 3 1 cI v61 hs62 (y64) :: OwnS 3 1 v65 (y67.map cI) :: OwnS 28 1 v47 (y49.map cI) :: Bx b32 75 [v47, v61, v65] :: Bx b8 165 [v19, I x52] :: Bx b4 75 [.slice none 0 0, .slice none 0 0, .slice none 0 0] :: L)) rfl hx89 rfl ?_
                  obtain ⟨r117, hc118, hj112⟩ := bind_some hj112
                  refine TO.callO kcallB_69_true rfl rfl rfl (fun _ st => C69 (a0 := (x88.1, x88.2.1)) (Bx.cel (Ent.at 5 rfl)) (Ent.at 0 rfl) hc118 st) ?_
                  rintro v119 _ ⟨_, rfl, rfl⟩
                  refine TO.ghost (fun _ s => Sat.front 5 rfl s) ?_
                  refine TO.ghost (fun _ s => Sat.front 5 rfl s) ?_
                  refine TO.ghost (fun _ s => Sat.front 5 rfl s) ?_
                  refine TO.ghost (fun _ s => Sat.front 5 rfl s) ?_
                  refine TO.ghost (fun _ s => Sat.front 4 rfl s) ?_
                  refine TO.ghost (L' := (SN 168 4 nT168 v19 hs51 (y50) :: OwnP 217 2 v119 cTii (r117) :: OwnS 3 1 v95 (y97.map cI) :: Bx b92 168 [.map (some (mv (cv (gr hs51 x68.toNat) 0))), .map (some (mv (cv (gr hs51 x68.toNat) 1))), (cv (gr hs51 x68.toNat) 2), (cv (gr hs51 x68.toNat) 3)] :: SS 22 3 1 cI v61 hs62 (y64) :: OwnS 3 1 v65 (y67.map cI) :: OwnS 28 1 v47 (y49.map cI) :: Bx b32 75 [v47, v61, v65] :: Bx b8 165 [v19, I x52] :: Bx b4 75 [.slice none 0 0, .slice none 0 0, .slice none 0 0] :: L)) (fun _ s => Sat.closeN0 (T := nT168) hx89 s) ?_
                  refine TO.openP 1 rfl fun y121 hp122 => ?_
                  replace hj112 := permK_spec hj112 y121 hp122
                  refine TO.s rfl rfl rfl (StepS.lenm rfl (OwnS.rd (Ent.at 1 rfl)) ksliceB_169_217_2_true rfl) ?_
                  refine TO.s rfl rfl rfl (StepS.cmp rfl rfl rfl) ?_
                  refine TO.code ?_
                  refine TC.cond rfl (fun hc123 => ?_) (fun hc123 => ?_)
                  · replace hj112 := cond_t hc123 hj112
                    refine TC.region ?_
                    refine TO.s rfl rfl rfl (StepS.move rfl) ?_
                    refine TO.s rfl rfl rfl (StepS.move rfl) ?_
                    refine TO.litS (f := cI) ([x98] : List Int) kelemB_22_3_1_8_true kinfo_3_bind_zero_some_I_0 rfl rfl (fun _ => rfl) rfl rfl (by kernel_rfl) rfl fun v124 => ?_
                    obtain ⟨y126, hk127, hj112⟩ := bind_some hj112
                    refine TO.app (k := 3) (f := cI) kelemB_22_3_1_8_true (by decide) rfl rfl rfl (OwnS.rd (Ent.at 0 rfl)) hk127 (fun x c hc => by simp [Value.oneCell'] at hc ⊢; first | (obtain rfl := hc; rfl) | (rcases hc with rfl <;> rfl)) rfl rfl fun v128 => ?_
                    refine TO.s rfl rfl rfl (StepS.assign rfl) ?_
                    cases hj112
                    refine TO.nil fun a w e s => ?_
                    exact ⟨v128, e.sub (lk_of_allIn ⟨rfl, rfl, rfl, rfl, rfl, rfl, rfl, rfl, rfl, trivial⟩), s.mono fun _ s => (by exact Sat.by [10, 10, 3, 10, 10, 10, 10, 10, 10] 9 2 (by kernel_rfl) s)⟩
                  · replace hj112 := cond_f hc123 hj112
                    cases hj112
                    refine TC.skip fun a w e s => ?_
                    exact ⟨v95, e.sub (lk_of_allIn ⟨rfl, rfl, rfl, rfl, rfl, rfl, rfl, rfl, rfl, trivial⟩), s.mono fun _ s => (by exact Sat.by [9, 9, 2, 9, 9, 9, 9, 9, 9] 9 1 (by kernel_rfl) s)⟩
                · intro a w ⟨v111, he, hs⟩
                  refine TC.use ?_ he hs
                  refine TC.region ?_
                  refine TO.s rfl rfl rfl (StepS.ari rfl rfl rfl) ?_
                  refine TO.s rfl rfl rfl (StepS.move rfl) ?_
                  cases hb108
                  refine TO.nil fun a w e s => ?_
                  exact ⟨v111, e.sub (lk_of_allIn ⟨rfl, rfl, rfl, rfl, rfl, rfl, rfl, rfl, rfl, trivial⟩), s⟩
              · replace hb108 := cond_f hc109 hb108
                cases hb108
                refine TC.exit rfl fun a w e s => ?_
                exact ⟨v95, e.sub (lk_of_allIn ⟨rfl, rfl, rfl, rfl, rfl, rfl, rfl, rfl, trivial⟩), s⟩
            · exact fun a w e s => ⟨.slice none 0 0, e.sub (lk_of_allIn ⟨rfl, rfl, rfl, rfl, rfl, rfl, rfl, rfl, rfl, trivial⟩), s.mono fun _ s => (by replace s := Sat.nilS (e := 3) (sz := 1) (f := cI) s; exact Sat.by [8, 8, 8, 8, 8, 8, 8, 8, 8] 9 0 (by kernel_rfl) s)⟩
            · rintro y105 rfl a w ⟨v103, he, hs⟩
              dsimp only [Ctl.on] at hb86
              refine TC.use ?_ he hs
              refine TC.k ?_
              refine TC.region ?_
              refine TO.s rfl rfl rfl (StepS.assign rfl) ?_
              refine TO.code ?_
              refine TC.k ?_
              refine TC.k ?_
              refine TC.region ?_
              refine TO.s rfl rfl rfl (StepS.move rfl) ?_
              refine TO.s rfl rfl rfl (StepS.move rfl) ?_
              refine TO.code ?_
              obtain ⟨o134, hw135, hb86⟩ := bind_some hb86
              refine TC.loop hw135 (fun (x129, x130) => fun a w => Mid 119 B [(0, I a0), (4, .pointer (some ⟨b4, 0, none⟩)), (7, .pointer (some ⟨b32, 0, none⟩)), (11, .pointer (some ⟨b92, 0, none⟩)), (12, v103), (14, I x129), (68, v19), (69, I (y50.length : Int)), (70, I x68), (86, I a0), (87, I x130)] (OwnS 3 1 v103 (y105.map cI) :: Bx b92 168 [.map (some (mv (cv (gr hs51 x68.toNat) 0))), .map (some (mv (cv (gr hs51 x68.toNat) 1))), (cv (gr hs51 x68.toNat) 2), (cv (gr hs51 x68.toNat) 3)] :: SS 22 3 1 cI v61 hs62 (y64) :: OwnS 3 1 v65 (y67.map cI) :: OwnS 28 1 v47 (y49.map cI) :: Bx b32 75 [v47, v61, v65] :: SN 168 4 nT168 v19 hs51 (y50) :: Bx b8 165 [v19, I x52] :: Bx b4 75 [.slice none 0 0, .slice none 0 0, .slice none 0 0] :: L) a w) (fun x133 => fun a w => Mid 119 B [(0, I a0), (4, .pointer (some ⟨b4, 0, none⟩)), (7, .pointer (some ⟨b32, 0, none⟩)), (12, v103), (14, I x133), (68, v19), (69, I (y50.length : Int)), (70, I x68)] (OwnS 3 1 v103 (y105.map cI) :: Bx b92 168 [.map (some (mv (cv (gr hs51 x68.toNat) 0))), .map (some (mv (cv (gr hs51 x68.toNat) 1))), (cv (gr hs51 x68.toNat) 2), (cv (gr hs51 x68.toNat) 3)] :: SS 22 3 1 cI v61 hs62 (y64) :: OwnS 3 1 v65 (y67.map cI) :: OwnS 28 1 v47 (y49.map cI) :: Bx b32 75 [v47, v61, v65] :: SN 168 4 nT168 v19 hs51 (y50) :: Bx b8 165 [v19, I x52] :: Bx b4 75 [.slice none 0 0, .slice none 0 0, .slice none 0 0] :: L) a w) (fun (_ : Unit) _ _ => False) ?_ ?_ ?_ ?_
              · rintro ⟨x129, x130⟩ o134r hb136 a w ⟨he, hs⟩
                dsimp only [F36_L4] at hb136
                refine TC.use ?_ he hs
                refine TC.k ?_
                refine TC.region ?_
                refine TO.s rfl rfl rfl (StepS.cmp rfl rfl rfl) ?_
                refine TO.code ?_
                refine TC.k ?_
                refine TC.cond rfl (fun hc137 => ?_) (fun hc137 => ?_)
                · replace hb136 := cond_t hc137 hb136
                  refine TC.skipk ?_
                  refine TC.k ?_
                  refine TC.block ?_
                  refine TC.k ?_
                  refine TC.region ?_
                  refine TO.s rfl rfl rfl (StepS.move rfl) ?_
                  refine TO.s rfl rfl rfl (StepS.assign rfl) ?_
                  refine TO.code ?_
                  refine TC.region_still kfollows_mixedOrders_true (by kernel_rfl) ?_
                  refine TS.s rfl rfl rfl (StepS.move rfl) ?_
                  refine TS.s rfl rfl rfl (StepS.fld rfl kfieldB_168_2_2_true) ?_
                  refine TS.s rfl rfl rfl (StepS.ldB rfl (Ent.at 1 rfl) kscalB_22_true rfl) ?_
                  refine TS.s rfl rfl rfl (StepS.move rfl) ?_
                  obtain ⟨x138, hx139, hb136⟩ := bind_some hb136
                  refine TS.s rfl rfl rfl (StepS.idx rfl rfl (OwnS.rd (SN.piece (Ent.at 6 rfl) hx89 2 rfl)) ksliceB_22_3_1_true (idx_spec hx139).1 (idxm_lt hx139)) ?_
                  refine TS.s rfl rfl rfl (StepS.ld0 rfl (OwnS.rd (SN.piece (Ent.at 6 rfl) hx89 2 rfl)) kscalB_3_true rfl (idxm hx139) rfl) ?_
                  refine TS.s rfl rfl rfl (StepS.fld rfl kfieldB_168_3_3_true) ?_
                  refine TS.s rfl rfl rfl (StepS.ldB rfl (Ent.at 1 rfl) kscalB_22_true rfl) ?_
                  refine TS.s rfl rfl rfl (StepS.move rfl) ?_
                  obtain ⟨x140, hx141, hb136⟩ := bind_some hb136
                  refine TS.s rfl rfl rfl (StepS.idx rfl rfl (OwnS.rd (SN.piece (Ent.at 6 rfl) hx89 3 rfl)) ksliceB_22_3_1_true (idx_spec hx141).1 (idxm_lt hx141)) ?_
                  refine TS.s rfl rfl rfl (StepS.ld0 rfl (OwnS.rd (SN.piece (Ent.at 6 rfl) hx89 3 rfl)) kscalB_3_true rfl (idxm hx141) rfl) ?_
                  refine TS.s rfl rfl rfl (StepS.ari rfl rfl rfl) ?_
                  refine TS.s rfl rfl rfl (StepS.ari rfl rfl rfl) ?_
                  refine TS.s rfl rfl rfl (StepS.assign rfl) ?_
                  refine TS.code ?_
                  refine TC.region ?_
                  refine TO.s rfl rfl rfl (StepS.ari rfl rfl rfl) ?_
                  refine TO.s rfl rfl rfl (StepS.move rfl) ?_
                  cases hb136
                  refine TO.nil fun a w e s => ?_
                  exact ⟨e.sub (lk_of_allIn ⟨rfl, rfl, rfl, rfl, rfl, rfl, rfl, rfl, rfl, rfl, rfl, trivial⟩), s⟩
                · replace hb136 := cond_f hc137 hb136
                  cases hb136
                  refine TC.exit rfl fun a w e s => ?_
                  exact ⟨e.sub (lk_of_allIn ⟨rfl, rfl, rfl, rfl, rfl, rfl, rfl, rfl, trivial⟩), s⟩
              · exact fun a w e s => ⟨e.sub (lk_of_allIn ⟨rfl, rfl, rfl, rfl, rfl, rfl, rfl, rfl, rfl, rfl, rfl, trivial⟩), s⟩
              · rintro x133 rfl a w ⟨he, hs⟩
                dsimp only [Ctl.on] at hb86
                refine TC.use ?_ he hs
                obtain ⟨⟨y143, y146⟩, hj148, hb86⟩ := bind_some hb86
                first | refine TC.cutM (fun a w => ∃ v144 : Value, ∃ hs145 : List Value, ∃ v147 : Value, Mid 119 B [(0, I a0), (4, .pointer (some ⟨b4, 0, none⟩)), (7, .pointer (some ⟨b32, 0, none⟩)), (68, v19), (69, I (y50.length : Int)), (70, I x68)] (Bx b92 168 [.map (some (mv (cv (gr hs51 x68.toNat) 0))), .map (some (mv (cv (gr hs51 x68.toNat) 1))), (cv (gr hs51 x68.toNat) 2), (cv (gr hs51 x68.toNat) 3)] :: SS 22 3 1 cI v144 hs145 (y143) :: OwnS 3 1 v147 (y146.map cI) :: OwnS 28 1 v47 (y49.map cI) :: Bx b32 75 [v47, v144, v147] :: SN 168 4 nT168 v19 hs51 (y50) :: Bx b8 165 [v19, I x52] :: Bx b4 75 [.slice none 0 0, .slice none 0 0, .slice none 0 0] :: L) a w) ?_ ?_ | refine TC.cutX (fun a w => ∃ v144 : Value, ∃ hs145 : List Value, ∃ v147 : Value, Mid 119 B [(0, I a0), (4, .pointer (some ⟨b4, 0, none⟩)), (7, .pointer (some ⟨b32, 0, none⟩)), (68, v19), (69, I (y50.length : Int)), (70, I x68)] (Bx b92 168 [.map (some (mv (cv (gr hs51 x68.toNat) 0))), .map (some (mv (cv (gr hs51 x68.toNat) 1))), (cv (gr hs51 x68.toNat) 2), (cv (gr hs51 x68.toNat) 3)] :: SS 22 3 1 cI v144 hs145 (y143) :: OwnS 3 1 v147 (y146.map cI) :: OwnS 28 1 v47 (y49.map cI) :: Bx b32 75 [v47, v144, v147] :: SN 168 4 nT168 v19 hs51 (y50) :: Bx b8 165 [v19, I x52] :: Bx b4 75 [.slice none 0 0, .slice none 0 0, .slice none 0 0] :: L) a w) ?_ ?_
                · obtain ⟨rq142_3_1, hcq142_3_2, hj148⟩ := bind_some hj148
                  obtain ⟨yq142_5_1, hkq142_5_2, hj148⟩ := bind_some hj148
                  obtain ⟨yq142_10_1, hkq142_10_2, hj148⟩ := bind_some hj148
                  refine TC.region_any (Bx b92 168 [.map (some (mv (cv (gr hs51 x68.toNat) 0))), .map (some (mv (cv (gr hs51 x68.toNat) 1))), (cv (gr hs51 x68.toNat) 2), (cv (gr hs51 x68.toNat) 3)] :: OwnS 28 1 v47 (y49.map cI) :: Bx b32 75 [v47, v61, v65] :: SN 168 4 nT168 v19 hs51 (y50) :: Bx b8 165 [v19, I x52] :: Bx b4 75 [.slice none 0 0, .slice none 0 0, .slice none 0 0] :: L) 12 15 kfollows_mixedOrders_true rfl ?_
                  refine TA.takeW 0 rfl rfl rfl rfl (StepS.fld rfl kfieldB_75_1_1_true) (by kernel_rfl) (by kernel_rfl) (by kernel_rfl) rfl (.inr (fun _ s => Sat.by [8, 8, 8, 8, 8, 6] 6 3 (by kernel_rfl) s)) ?_
                  refine TA.take 1 rfl rfl rfl rfl (StepS.ldB rfl (Ent.at 2 rfl) kscalB_50_true rfl) (by kernel_rfl) (by kernel_rfl) (by kernel_rfl) (by kernel_rfl) (by kernel_rfl) (fun _ s => Sat.by [8, 8, 8, 8, 8, 6] 6 3 (by kernel_rfl) s) ?_
                  refine TA.takeW 2 rfl rfl rfl rfl (StepS.move rfl) (by kernel_rfl) (by kernel_rfl) (by kernel_rfl) rfl (.inr (fun _ s => Sat.by [8, 8, 8, 8, 8, 6] 6 3 (by kernel_rfl) s)) ?_
                  refine TA.takeW 6 rfl rfl rfl rfl (StepS.fld rfl kfieldB_75_2_2_true) (by kernel_rfl) (by kernel_rfl) (by kernel_rfl) rfl (.inr (fun _ s => Sat.by [8, 8, 8, 8, 8, 6] 6 3 (by kernel_rfl) s)) ?_
                  refine TA.take 7 rfl rfl rfl rfl (StepS.ldB rfl (Ent.at 2 rfl) kscalB_22_true rfl) (by kernel_rfl) (by kernel_rfl) (by kernel_rfl) (by kernel_rfl) (by kernel_rfl) (fun _ s => Sat.by [8, 8, 8, 8, 8, 6] 6 3 (by kernel_rfl) s) ?_
                  refine TA.takeW 8 rfl rfl rfl rfl (StepS.move rfl) (by kernel_rfl) (by kernel_rfl) (by kernel_rfl) rfl (.inr (fun _ s => Sat.by [8, 8, 8, 8, 8, 6] 6 3 (by kernel_rfl) s)) ?_
                  refine TA.all2 (i := 3) (j := 9) (by kernel_rfl) ?_ ?_
                  · refine TB.of rfl ?_
                    refine TO.callO kcallB_70_true rfl rfl rfl (fun _ st => C70  hcq142_3_2 st) ?_
                    rintro vq142_3_3 _ ⟨_, rfl, rfl⟩
                    refine TA.back (.inr (fun _ s => Sat.by [8, 8, 8, 8, 8, 6] 6 3 (by kernel_rfl) s)) ?_
                    refine TA.asL (L' := (OwnS 3 1 vq142_3_3 (rq142_3_1.map cI) :: Bx b92 168 [.map (some (mv (cv (gr hs51 x68.toNat) 0))), .map (some (mv (cv (gr hs51 x68.toNat) 1))), (cv (gr hs51 x68.toNat) 2), (cv (gr hs51 x68.toNat) 3)] :: SS 22 3 1 cI v61 hs62 (y64) :: OwnS 3 1 v65 (y67.map cI) :: OwnS 28 1 v47 (y49.map cI) :: Bx b32 75 [v47, v61, v65] :: SN 168 4 nT168 v19 hs51 (y50) :: Bx b8 165 [v19, I x52] :: Bx b4 75 [.slice none 0 0, .slice none 0 0, .slice none 0 0] :: L)) (listed' := #[true, true, true, true, false, false, true, true, true, false, false, false, false, false, false]) (by kernel_rfl) (by kernel_rfl) ?_
                    refine TA.all2 (i := 4) (j := 9) (by kernel_rfl) ?_ ?_
                    · refine TB.of rfl ?_
                      refine TO.lit1H rfl (OwnS.rd (Ent.at 0 rfl)) kelemB_50_22_1_24_true rfl fun vq142_4_1 => ?_
                      refine TA.back (.inr (fun _ s => Sat.by [9, 9, 9, 9, 9, 7] 6 4 (by kernel_rfl) s)) ?_
                      refine TA.asL (L' := (OwnS 22 1 vq142_4_1 ([()].map (fun (_ : Unit) => [vq142_3_3])) :: OwnS 3 1 vq142_3_3 (rq142_3_1.map cI) :: Bx b92 168 [.map (some (mv (cv (gr hs51 x68.toNat) 0))), .map (some (mv (cv (gr hs51 x68.toNat) 1))), (cv (gr hs51 x68.toNat) 2), (cv (gr hs51 x68.toNat) 3)] :: SS 22 3 1 cI v61 hs62 (y64) :: OwnS 3 1 v65 (y67.map cI) :: OwnS 28 1 v47 (y49.map cI) :: Bx b32 75 [v47, v61, v65] :: SN 168 4 nT168 v19 hs51 (y50) :: Bx b8 165 [v19, I x52] :: Bx b4 75 [.slice none 0 0, .slice none 0 0, .slice none 0 0] :: L)) (listed' := #[true, true, true, true, true, false, true, true, true, false, false, false, false, false, false]) (by kernel_rfl) (by kernel_rfl) ?_
                      refine TA.all2 (i := 5) (j := 9) (by kernel_rfl) ?_ ?_
                      · refine TB.of rfl ?_
                        refine TO.ghost (fun _ s => Sat.front 3 rfl s) ?_
                        refine TO.ghost (fun _ s => Sat.front 2 rfl s) ?_
                        refine TO.appSS (row := rq142_3_1) rfl kelemB_50_22_1_24_true rfl rfl (OwnS.rd (Ent.at 0 rfl)) hkq142_5_2 rfl rfl fun vq142_5_3 hsq142_5_4 => ?_
                        refine TO.ghost (fun _ s => Sat.erase 1 s) ?_
                        refine TA.back (.inr (fun _ s => Sat.by [7, 7, 7, 7, 7, 6] 6 2 (by kernel_rfl) s)) ?_
                        refine TA.asL (L' := (SS 22 3 1 cI vq142_5_3 hsq142_5_4 (yq142_5_1) :: Bx b92 168 [.map (some (mv (cv (gr hs51 x68.toNat) 0))), .map (some (mv (cv (gr hs51 x68.toNat) 1))), (cv (gr hs51 x68.toNat) 2), (cv (gr hs51 x68.toNat) 3)] :: OwnS 3 1 v65 (y67.map cI) :: OwnS 28 1 v47 (y49.map cI) :: Bx b32 75 [v47, v61, v65] :: SN 168 4 nT168 v19 hs51 (y50) :: Bx b8 165 [v19, I x52] :: Bx b4 75 [.slice none 0 0, .slice none 0 0, .slice none 0 0] :: L)) (listed' := #[true, true, true, true, true, true, true, true, true, false, false, false, false, false, false]) (by kernel_rfl) (by kernel_rfl) ?_
                        refine TA.takeW 11 rfl rfl rfl rfl (StepS.fld rfl kfieldB_75_1_1_true) (by kernel_rfl) (by kernel_rfl) (by kernel_rfl) rfl (.inr (fun _ s => Sat.by [7, 7, 7, 7, 7, 6] 6 2 (by kernel_rfl) s)) ?_
                        refine TA.all1 (i := 9) (by kernel_rfl) ?_
                        refine TB.of rfl ?_
                        refine TO.litS (f := cI) ([x133] : List Int) kelemB_22_3_1_8_true kinfo_3_bind_zero_some_I_0 rfl rfl (fun _ => rfl) rfl rfl (by kernel_rfl) rfl fun vq142_9_1 => ?_
                        refine TA.back (.inr (fun _ s => Sat.by [8, 8, 8, 8, 8, 7] 6 3 (by kernel_rfl) s)) ?_
                        refine TA.asL (L' := (OwnS 3 1 vq142_9_1 (([x133] : List Int).map cI) :: SS 22 3 1 cI vq142_5_3 hsq142_5_4 (yq142_5_1) :: Bx b92 168 [.map (some (mv (cv (gr hs51 x68.toNat) 0))), .map (some (mv (cv (gr hs51 x68.toNat) 1))), (cv (gr hs51 x68.toNat) 2), (cv (gr hs51 x68.toNat) 3)] :: OwnS 3 1 v65 (y67.map cI) :: OwnS 28 1 v47 (y49.map cI) :: Bx b32 75 [v47, v61, v65] :: SN 168 4 nT168 v19 hs51 (y50) :: Bx b8 165 [v19, I x52] :: Bx b4 75 [.slice none 0 0, .slice none 0 0, .slice none 0 0] :: L)) (listed' := #[true, true, true, true, true, true, true, true, true, true, false, true, false, false, false]) (by kernel_rfl) (by kernel_rfl) ?_
                        refine TA.all1 (i := 10) (by kernel_rfl) ?_
                        refine TB.of rfl ?_
                        refine TO.app (k := 3) (f := cI) kelemB_22_3_1_8_true (by decide) rfl rfl rfl (OwnS.rd (Ent.at 0 rfl)) hkq142_10_2 (fun x c hc => by simp [Value.oneCell'] at hc ⊢; first | (obtain rfl := hc; rfl) | (rcases hc with rfl <;> rfl)) rfl rfl fun vq142_10_3 => ?_
                        refine TA.back (.inr (fun _ s => Sat.by [8, 8, 8, 8, 8, 7] 6 3 (by kernel_rfl) s)) ?_
                        refine TA.asL (L' := (OwnS 3 1 vq142_9_1 (([x133] : List Int).map cI) :: SS 22 3 1 cI vq142_5_3 hsq142_5_4 (yq142_5_1) :: Bx b92 168 [.map (some (mv (cv (gr hs51 x68.toNat) 0))), .map (some (mv (cv (gr hs51 x68.toNat) 1))), (cv (gr hs51 x68.toNat) 2), (cv (gr hs51 x68.toNat) 3)] :: OwnS 3 1 vq142_10_3 (yq142_10_1.map cI) :: OwnS 28 1 v47 (y49.map cI) :: Bx b32 75 [v47, v61, v65] :: SN 168 4 nT168 v19 hs51 (y50) :: Bx b8 165 [v19, I x52] :: Bx b4 75 [.slice none 0 0, .slice none 0 0, .slice none 0 0] :: L)) (listed' := #[true, true, true, true, true, true, true, true, true, true, true, true, false, false, false]) (by kernel_rfl) (by kernel_rfl) ?_
                        refine TA.all1 (i := 12) (by kernel_rfl) ?_
                        refine TB.of rfl ?_
                        refine TO.pure (fun _ s => Rd.one (RR.top (SS.rr (Ent.at 1 rfl))) s) fun ocq142_12_1 => ?_
                        refine TO.stB (us := [vq142_5_3]) 5 [v47, vq142_5_3, v65] rfl rfl rfl ksizeB_50_1_true ocq142_12_1.2 rfl rfl (by intro u hu; simp only [List.mem_cons, List.not_mem_nil, or_false] at hu; rcases hu with rfl <;> first | exact ocq142_12_1.1 | rfl) rfl ?_
                        refine TA.back (.inl (by kernel_rfl)) ?_
                        refine TA.asL (L' := (OwnS 3 1 vq142_9_1 (([x133] : List Int).map cI) :: SS 22 3 1 cI vq142_5_3 hsq142_5_4 (yq142_5_1) :: Bx b92 168 [.map (some (mv (cv (gr hs51 x68.toNat) 0))), .map (some (mv (cv (gr hs51 x68.toNat) 1))), (cv (gr hs51 x68.toNat) 2), (cv (gr hs51 x68.toNat) 3)] :: OwnS 3 1 vq142_10_3 (yq142_10_1.map cI) :: OwnS 28 1 v47 (y49.map cI) :: Bx b32 75 [v47, vq142_5_3, v65] :: SN 168 4 nT168 v19 hs51 (y50) :: Bx b8 165 [v19, I x52] :: Bx b4 75 [.slice none 0 0, .slice none 0 0, .slice none 0 0] :: L)) (listed' := #[true, true, true, true, true, true, true, true, true, true, true, true, true, false, false]) (by kernel_rfl) (by kernel_rfl) ?_
                        refine TA.takeW 13 rfl rfl rfl rfl (StepS.fld rfl kfieldB_75_2_2_true) (by kernel_rfl) (by kernel_rfl) (by kernel_rfl) rfl (.inl (by kernel_rfl)) ?_
                        refine TA.all1 (i := 14) (by kernel_rfl) ?_
                        refine TB.of rfl ?_
                        refine TO.pure (fun _ s => Rd.one (OwnS.rd (Ent.at 3 rfl)) s) fun ocq142_14_1 => ?_
                        refine TO.stB (us := [vq142_10_3]) 5 [v47, vq142_5_3, vq142_10_3] rfl rfl rfl ksizeB_22_1_true ocq142_14_1.2 rfl rfl (by intro u hu; simp only [List.mem_cons, List.not_mem_nil, or_false] at hu; rcases hu with rfl <;> first | exact ocq142_14_1.1 | rfl) rfl ?_
                        refine TA.back (.inl (by kernel_rfl)) ?_
                        refine TA.asL (L' := (OwnS 3 1 vq142_9_1 (([x133] : List Int).map cI) :: SS 22 3 1 cI vq142_5_3 hsq142_5_4 (yq142_5_1) :: Bx b92 168 [.map (some (mv (cv (gr hs51 x68.toNat) 0))), .map (some (mv (cv (gr hs51 x68.toNat) 1))), (cv (gr hs51 x68.toNat) 2), (cv (gr hs51 x68.toNat) 3)] :: OwnS 3 1 vq142_10_3 (yq142_10_1.map cI) :: OwnS 28 1 v47 (y49.map cI) :: Bx b32 75 [v47, vq142_5_3, vq142_10_3] :: SN 168 4 nT168 v19 hs51 (y50) :: Bx b8 165 [v19, I x52] :: Bx b4 75 [.slice none 0 0, .slice none 0 0, .slice none 0 0] :: L)) (listed' := #[true, true, true, true, true, true, true, true, true, true, true, true, true, true, true]) (by kernel_rfl) (by kernel_rfl) ?_
                        cases hj148
                        refine TA.nil (by kernel_rfl) fun a w e s => ?_
                        exact ⟨vq142_5_3, hsq142_5_4, vq142_10_3, e.sub (lk_of_allIn ⟨rfl, rfl, rfl, rfl, rfl, rfl, trivial⟩), s.mono fun _ s => (by exact Sat.by [8, 8, 8, 8, 8, 8, 7, 8] 8 1 (by kernel_rfl) s)⟩
                      · refine TB.of rfl ?_
                        refine TO.litS (f := cI) ([x133] : List Int) kelemB_22_3_1_8_true kinfo_3_bind_zero_some_I_0 rfl rfl (fun _ => rfl) rfl rfl (by kernel_rfl) rfl fun vq142_9_1 => ?_
                        refine TA.back (.inr (fun _ s => Sat.by [10, 10, 10, 10, 10, 8] 6 5 (by kernel_rfl) s)) ?_
                        refine TA.asL (L' := (OwnS 3 1 vq142_9_1 (([x133] : List Int).map cI) :: OwnS 22 1 vq142_4_1 ([()].map (fun (_ : Unit) => [vq142_3_3])) :: OwnS 3 1 vq142_3_3 (rq142_3_1.map cI) :: Bx b92 168 [.map (some (mv (cv (gr hs51 x68.toNat) 0))), .map (some (mv (cv (gr hs51 x68.toNat) 1))), (cv (gr hs51 x68.toNat) 2), (cv (gr hs51 x68.toNat) 3)] :: SS 22 3 1 cI v61 hs62 (y64) :: OwnS 3 1 v65 (y67.map cI) :: OwnS 28 1 v47 (y49.map cI) :: Bx b32 75 [v47, v61, v65] :: SN 168 4 nT168 v19 hs51 (y50) :: Bx b8 165 [v19, I x52] :: Bx b4 75 [.slice none 0 0, .slice none 0 0, .slice none 0 0] :: L)) (listed' := #[true, true, true, true, true, false, true, true, true, true, false, false, false, false, false]) (by kernel_rfl) (by kernel_rfl) ?_
                        refine TA.all1 (i := 5) (by kernel_rfl) ?_
                        refine TB.of rfl ?_
                        refine TO.ghost (fun _ s => Sat.front 4 rfl s) ?_
                        refine TO.ghost (fun _ s => Sat.front 3 rfl s) ?_
                        refine TO.appSS (row := rq142_3_1) rfl kelemB_50_22_1_24_true rfl rfl (OwnS.rd (Ent.at 1 rfl)) hkq142_5_2 rfl rfl fun vq142_5_3 hsq142_5_4 => ?_
                        refine TO.ghost (fun _ s => Sat.erase 2 s) ?_
                        refine TA.back (.inr (fun _ s => Sat.by [8, 8, 8, 8, 8, 7] 6 3 (by kernel_rfl) s)) ?_
                        refine TA.asL (L' := (SS 22 3 1 cI vq142_5_3 hsq142_5_4 (yq142_5_1) :: OwnS 3 1 vq142_9_1 (([x133] : List Int).map cI) :: Bx b92 168 [.map (some (mv (cv (gr hs51 x68.toNat) 0))), .map (some (mv (cv (gr hs51 x68.toNat) 1))), (cv (gr hs51 x68.toNat) 2), (cv (gr hs51 x68.toNat) 3)] :: OwnS 3 1 v65 (y67.map cI) :: OwnS 28 1 v47 (y49.map cI) :: Bx b32 75 [v47, v61, v65] :: SN 168 4 nT168 v19 hs51 (y50) :: Bx b8 165 [v19, I x52] :: Bx b4 75 [.slice none 0 0, .slice none 0 0, .slice none 0 0] :: L)) (listed' := #[true, true, true, true, true, true, true, true, true, true, false, false, false, false, false]) (by kernel_rfl) (by kernel_rfl) ?_
                        refine TA.takeW 11 rfl rfl rfl rfl (StepS.fld rfl kfieldB_75_1_1_true) (by kernel_rfl) (by kernel_rfl) (by kernel_rfl) rfl (.inr (fun _ s => Sat.by [8, 8, 8, 8, 8, 7] 6 3 (by kernel_rfl) s)) ?_
                        refine TA.all1 (i := 10) (by kernel_rfl) ?_
                        refine TB.of rfl ?_
                        refine TO.app (k := 3) (f := cI) kelemB_22_3_1_8_true (by decide) rfl rfl rfl (OwnS.rd (Ent.at 1 rfl)) hkq142_10_2 (fun x c hc => by simp [Value.oneCell'] at hc ⊢; first | (obtain rfl := hc; rfl) | (rcases hc with rfl <;> rfl)) rfl rfl fun vq142_10_3 => ?_
                        refine TA.back (.inr (fun _ s => Sat.by [8, 8, 8, 8, 8, 7] 6 3 (by kernel_rfl) s)) ?_
                        refine TA.asL (L' := (SS 22 3 1 cI vq142_5_3 hsq142_5_4 (yq142_5_1) :: OwnS 3 1 vq142_9_1 (([x133] : List Int).map cI) :: Bx b92 168 [.map (some (mv (cv (gr hs51 x68.toNat) 0))), .map (some (mv (cv (gr hs51 x68.toNat) 1))), (cv (gr hs51 x68.toNat) 2), (cv (gr hs51 x68.toNat) 3)] :: OwnS 3 1 vq142_10_3 (yq142_10_1.map cI) :: OwnS 28 1 v47 (y49.map cI) :: Bx b32 75 [v47, v61, v65] :: SN 168 4 nT168 v19 hs51 (y50) :: Bx b8 165 [v19, I x52] :: Bx b4 75 [.slice none 0 0, .slice none 0 0, .slice none 0 0] :: L)) (listed' := #[true, true, true, true, true, true, true, true, true, true, true, true, false, false, false]) (by kernel_rfl) (by kernel_rfl) ?_
                        refine TA.all1 (i := 12) (by kernel_rfl) ?_
                        refine TB.of rfl ?_
                        refine TO.pure (fun _ s => Rd.one (RR.top (SS.rr (Ent.at 0 rfl))) s) fun ocq142_12_1 => ?_
                        refine TO.stB (us := [vq142_5_3]) 5 [v47, vq142_5_3, v65] rfl rfl rfl ksizeB_50_1_true ocq142_12_1.2 rfl rfl (by intro u hu; simp only [List.mem_cons, List.not_mem_nil, or_false] at hu; rcases hu with rfl <;> first | exact ocq142_12_1.1 | rfl) rfl ?_
                        refine TA.back (.inl (by kernel_rfl)) ?_
                        refine TA.asL (L' := (SS 22 3 1 cI vq142_5_3 hsq142_5_4 (yq142_5_1) :: OwnS 3 1 vq142_9_1 (([x133] : List Int).map cI) :: Bx b92 168 [.map (some (mv (cv (gr hs51 x68.toNat) 0))), .map (some (mv (cv (gr hs51 x68.toNat) 1))), (cv (gr hs51 x68.toNat) 2), (cv (gr hs51 x68.toNat) 3)] :: OwnS 3 1 vq142_10_3 (yq142_10_1.map cI) :: OwnS 28 1 v47 (y49.map cI) :: Bx b32 75 [v47, vq142_5_3, v65] :: SN 168 4 nT168 v19 hs51 (y50) :: Bx b8 165 [v19, I x52] :: Bx b4 75 [.slice none 0 0, .slice none 0 0, .slice none 0 0] :: L)) (listed' := #[true, true, true, true, true, true, true, true, true, true, true, true, true, false, false]) (by kernel_rfl) (by kernel_rfl) ?_
                        refine TA.takeW 13 rfl rfl rfl rfl (StepS.fld rfl kfieldB_75_2_2_true) (by kernel_rfl) (by kernel_rfl) (by kernel_rfl) rfl (.inl (by kernel_rfl)) ?_
                        refine TA.all1 (i := 14) (by kernel_rfl) ?_
                        refine TB.of rfl ?_
                        refine TO.pure (fun _ s => Rd.one (OwnS.rd (Ent.at 3 rfl)) s) fun ocq142_14_1 => ?_
                        refine TO.stB (us := [vq142_10_3]) 5 [v47, vq142_5_3, vq142_10_3] rfl rfl rfl ksizeB_22_1_true ocq142_14_1.2 rfl rfl (by intro u hu; simp only [List.mem_cons, List.not_mem_nil, or_false] at hu; rcases hu with rfl <;> first | exact ocq142_14_1.1 | rfl) rfl ?_
                        refine TA.back (.inl (by kernel_rfl)) ?_
                        refine TA.asL (L' := (SS 22 3 1 cI vq142_5_3 hsq142_5_4 (yq142_5_1) :: OwnS 3 1 vq142_9_1 (([x133] : List Int).map cI) :: Bx b92 168 [.map (some (mv (cv (gr hs51 x68.toNat) 0))), .map (some (mv (cv (gr hs51 x68.toNat) 1))), (cv (gr hs51 x68.toNat) 2), (cv (gr hs51 x68.toNat) 3)] :: OwnS 3 1 vq142_10_3 (yq142_10_1.map cI) :: OwnS 28 1 v47 (y49.map cI) :: Bx b32 75 [v47, vq142_5_3, vq142_10_3] :: SN 168 4 nT168 v19 hs51 (y50) :: Bx b8 165 [v19, I x52] :: Bx b4 75 [.slice none 0 0, .slice none 0 0, .slice none 0 0] :: L)) (listed' := #[true, true, true, true, true, true, true, true, true, true, true, true, true, true, true]) (by kernel_rfl) (by kernel_rfl) ?_
                        cases hj148
                        refine TA.nil (by kernel_rfl) fun a w e s => ?_
                        exact ⟨vq142_5_3, hsq142_5_4, vq142_10_3, e.sub (lk_of_allIn ⟨rfl, rfl, rfl, rfl, rfl, rfl, trivial⟩), s.mono fun _ s => (by exact Sat.by [8, 8, 8, 8, 8, 8, 6, 8] 8 1 (by kernel_rfl) s)⟩
                    · refine TB.of rfl ?_
                      refine TO.litS (f := cI) ([x133] : List Int) kelemB_22_3_1_8_true kinfo_3_bind_zero_some_I_0 rfl rfl (fun _ => rfl) rfl rfl (by kernel_rfl) rfl fun vq142_9_1 => ?_
                      refine TA.back (.inr (fun _ s => Sat.by [9, 9, 9, 9, 9, 7] 6 4 (by kernel_rfl) s)) ?_
                      refine TA.asL (L' := (OwnS 3 1 vq142_9_1 (([x133] : List Int).map cI) :: OwnS 3 1 vq142_3_3 (rq142_3_1.map cI) :: Bx b92 168 [.map (some (mv (cv (gr hs51 x68.toNat) 0))), .map (some (mv (cv (gr hs51 x68.toNat) 1))), (cv (gr hs51 x68.toNat) 2), (cv (gr hs51 x68.toNat) 3)] :: SS 22 3 1 cI v61 hs62 (y64) :: OwnS 3 1 v65 (y67.map cI) :: OwnS 28 1 v47 (y49.map cI) :: Bx b32 75 [v47, v61, v65] :: SN 168 4 nT168 v19 hs51 (y50) :: Bx b8 165 [v19, I x52] :: Bx b4 75 [.slice none 0 0, .slice none 0 0, .slice none 0 0] :: L)) (listed' := #[true, true, true, true, false, false, true, true, true, true, false, false, false, false, false]) (by kernel_rfl) (by kernel_rfl) ?_
                      refine TA.all1 (i := 4) (by kernel_rfl) ?_
                      refine TB.of rfl ?_
                      refine TO.lit1H rfl (OwnS.rd (Ent.at 1 rfl)) kelemB_50_22_1_24_true rfl fun vq142_4_1 => ?_
                      refine TA.back (.inr (fun _ s => Sat.by [10, 10, 10, 10, 10, 8] 6 5 (by kernel_rfl) s)) ?_
                      refine TA.asL (L' := (OwnS 22 1 vq142_4_1 ([()].map (fun (_ : Unit) => [vq142_3_3])) :: OwnS 3 1 vq142_9_1 (([x133] : List Int).map cI) :: OwnS 3 1 vq142_3_3 (rq142_3_1.map cI) :: Bx b92 168 [.map (some (mv (cv (gr hs51 x68.toNat) 0))), .map (some (mv (cv (gr hs51 x68.toNat) 1))), (cv (gr hs51 x68.toNat) 2), (cv (gr hs51 x68.toNat) 3)] :: SS 22 3 1 cI v61 hs62 (y64) :: OwnS 3 1 v65 (y67.map cI) :: OwnS 28 1 v47 (y49.map cI) :: Bx b32 75 [v47, v61, v65] :: SN 168 4 nT168 v19 hs51 (y50) :: Bx b8 165 [v19, I x52] :: Bx b4 75 [.slice none 0 0, .slice none 0 0, .slice none 0 0] :: L)) (listed' := #[true, true, true, true, true, false, true, true, true, true, false, false, false, false, false]) (by kernel_rfl) (by kernel_rfl) ?_
                      refine TA.all1 (i := 5) (by kernel_rfl) ?_
                      refine TB.of rfl ?_
                      refine TO.ghost (fun _ s => Sat.front 4 rfl s) ?_
                      refine TO.ghost (fun _ s => Sat.front 3 rfl s) ?_
                      refine TO.appSS (row := rq142_3_1) rfl kelemB_50_22_1_24_true rfl rfl (OwnS.rd (Ent.at 0 rfl)) hkq142_5_2 rfl rfl fun vq142_5_3 hsq142_5_4 => ?_
                      refine TO.ghost (fun _ s => Sat.erase 1 s) ?_
                      refine TA.back (.inr (fun _ s => Sat.by [8, 8, 8, 8, 8, 7] 6 3 (by kernel_rfl) s)) ?_
                      refine TA.asL (L' := (SS 22 3 1 cI vq142_5_3 hsq142_5_4 (yq142_5_1) :: OwnS 3 1 vq142_9_1 (([x133] : List Int).map cI) :: Bx b92 168 [.map (some (mv (cv (gr hs51 x68.toNat) 0))), .map (some (mv (cv (gr hs51 x68.toNat) 1))), (cv (gr hs51 x68.toNat) 2), (cv (gr hs51 x68.toNat) 3)] :: OwnS 3 1 v65 (y67.map cI) :: OwnS 28 1 v47 (y49.map cI) :: Bx b32 75 [v47, v61, v65] :: SN 168 4 nT168 v19 hs51 (y50) :: Bx b8 165 [v19, I x52] :: Bx b4 75 [.slice none 0 0, .slice none 0 0, .slice none 0 0] :: L)) (listed' := #[true, true, true, true, true, true, true, true, true, true, false, false, false, false, false]) (by kernel_rfl) (by kernel_rfl) ?_
                      refine TA.takeW 11 rfl rfl rfl rfl (StepS.fld rfl kfieldB_75_1_1_true) (by kernel_rfl) (by kernel_rfl) (by kernel_rfl) rfl (.inr (fun _ s => Sat.by [8, 8, 8, 8, 8, 7] 6 3 (by kernel_rfl) s)) ?_
                      refine TA.all1 (i := 10) (by kernel_rfl) ?_
                      refine TB.of rfl ?_
                      refine TO.app (k := 3) (f := cI) kelemB_22_3_1_8_true (by decide) rfl rfl rfl (OwnS.rd (Ent.at 1 rfl)) hkq142_10_2 (fun x c hc => by simp [Value.oneCell'] at hc ⊢; first | (obtain rfl := hc; rfl) | (rcases hc with rfl <;> rfl)) rfl rfl fun vq142_10_3 => ?_
                      refine TA.back (.inr (fun _ s => Sat.by [8, 8, 8, 8, 8, 7] 6 3 (by kernel_rfl) s)) ?_
                      refine TA.asL (L' := (SS 22 3 1 cI vq142_5_3 hsq142_5_4 (yq142_5_1) :: OwnS 3 1 vq142_9_1 (([x133] : List Int).map cI) :: Bx b92 168 [.map (some (mv (cv (gr hs51 x68.toNat) 0))), .map (some (mv (cv (gr hs51 x68.toNat) 1))), (cv (gr hs51 x68.toNat) 2), (cv (gr hs51 x68.toNat) 3)] :: OwnS 3 1 vq142_10_3 (yq142_10_1.map cI) :: OwnS 28 1 v47 (y49.map cI) :: Bx b32 75 [v47, v61, v65] :: SN 168 4 nT168 v19 hs51 (y50) :: Bx b8 165 [v19, I x52] :: Bx b4 75 [.slice none 0 0, .slice none 0 0, .slice none 0 0] :: L)) (listed' := #[true, true, true, true, true, true, true, true, true, true, true, true, false, false, false]) (by kernel_rfl) (by kernel_rfl) ?_
                      refine TA.all1 (i := 12) (by kernel_rfl) ?_
                      refine TB.of rfl ?_
                      refine TO.pure (fun _ s => Rd.one (RR.top (SS.rr (Ent.at 0 rfl))) s) fun ocq142_12_1 => ?_
                      refine TO.stB (us := [vq142_5_3]) 5 [v47, vq142_5_3, v65] rfl rfl rfl ksizeB_50_1_true ocq142_12_1.2 rfl rfl (by intro u hu; simp only [List.mem_cons, List.not_mem_nil, or_false] at hu; rcases hu with rfl <;> first | exact ocq142_12_1.1 | rfl) rfl ?_
                      refine TA.back (.inl (by kernel_rfl)) ?_
                      refine TA.asL (L' := (SS 22 3 1 cI vq142_5_3 hsq142_5_4 (yq142_5_1) :: OwnS 3 1 vq142_9_1 (([x133] : List Int).map cI) :: Bx b92 168 [.map (some (mv (cv (gr hs51 x68.toNat) 0))), .map (some (mv (cv (gr hs51 x68.toNat) 1))), (cv (gr hs51 x68.toNat) 2), (cv (gr hs51 x68.toNat) 3)] :: OwnS 3 1 vq142_10_3 (yq142_10_1.map cI) :: OwnS 28 1 v47 (y49.map cI) :: Bx b32 75 [v47, vq142_5_3, v65] :: SN 168 4 nT168 v19 hs51 (y50) :: Bx b8 165 [v19, I x52] :: Bx b4 75 [.slice none 0 0, .slice none 0 0, .slice none 0 0] :: L)) (listed' := #[true, true, true, true, true, true, true, true, true, true, true, true, true, false, false]) (by kernel_rfl) (by kernel_rfl) ?_
                      refine TA.takeW 13 rfl rfl rfl rfl (StepS.fld rfl kfieldB_75_2_2_true) (by kernel_rfl) (by kernel_rfl) (by kernel_rfl) rfl (.inl (by kernel_rfl)) ?_
                      refine TA.all1 (i := 14) (by kernel_rfl) ?_
                      refine TB.of rfl ?_
                      refine TO.pure (fun _ s => Rd.one (OwnS.rd (Ent.at 3 rfl)) s) fun ocq142_14_1 => ?_
                      refine TO.stB (us := [vq142_10_3]) 5 [v47, vq142_5_3, vq142_10_3] rfl rfl rfl ksizeB_22_1_true ocq142_14_1.2 rfl rfl (by intro u hu; simp only [List.mem_cons, List.not_mem_nil, or_false] at hu; rcases hu with rfl <;> first | exact ocq142_14_1.1 | rfl) rfl ?_
                      refine TA.back (.inl (by kernel_rfl)) ?_
                      refine TA.asL (L' := (SS 22 3 1 cI vq142_5_3 hsq142_5_4 (yq142_5_1) :: OwnS 3 1 vq142_9_1 (([x133] : List Int).map cI) :: Bx b92 168 [.map (some (mv (cv (gr hs51 x68.toNat) 0))), .map (some (mv (cv (gr hs51 x68.toNat) 1))), (cv (gr hs51 x68.toNat) 2), (cv (gr hs51 x68.toNat) 3)] :: OwnS 3 1 vq142_10_3 (yq142_10_1.map cI) :: OwnS 28 1 v47 (y49.map cI) :: Bx b32 75 [v47, vq142_5_3, vq142_10_3] :: SN 168 4 nT168 v19 hs51 (y50) :: Bx b8 165 [v19, I x52] :: Bx b4 75 [.slice none 0 0, .slice none 0 0, .slice none 0 0] :: L)) (listed' := #[true, true, true, true, true, true, true, true, true, true, true, true, true, true, true]) (by kernel_rfl) (by kernel_rfl) ?_
                      cases hj148
                      refine TA.nil (by kernel_rfl) fun a w e s => ?_
                      exact ⟨vq142_5_3, hsq142_5_4, vq142_10_3, e.sub (lk_of_allIn ⟨rfl, rfl, rfl, rfl, rfl, rfl, trivial⟩), s.mono fun _ s => (by exact Sat.by [8, 8, 8, 8, 8, 8, 6, 8] 8 1 (by kernel_rfl) s)⟩
                  · refine TB.of rfl ?_
                    refine TO.litS (f := cI) ([x133] : List Int) kelemB_22_3_1_8_true kinfo_3_bind_zero_some_I_0 rfl rfl (fun _ => rfl) rfl rfl (by kernel_rfl) rfl fun vq142_9_1 => ?_
                    refine TA.back (.inr (fun _ s => Sat.by [9, 9, 9, 9, 9, 7] 6 4 (by kernel_rfl) s)) ?_
                    refine TA.asL (L' := (OwnS 3 1 vq142_9_1 (([x133] : List Int).map cI) :: OwnS 3 1 v103 (y105.map cI) :: Bx b92 168 [.map (some (mv (cv (gr hs51 x68.toNat) 0))), .map (some (mv (cv (gr hs51 x68.toNat) 1))), (cv (gr hs51 x68.toNat) 2), (cv (gr hs51 x68.toNat) 3)] :: SS 22 3 1 cI v61 hs62 (y64) :: OwnS 3 1 v65 (y67.map cI) :: OwnS 28 1 v47 (y49.map cI) :: Bx b32 75 [v47, v61, v65] :: SN 168 4 nT168 v19 hs51 (y50) :: Bx b8 165 [v19, I x52] :: Bx b4 75 [.slice none 0 0, .slice none 0 0, .slice none 0 0] :: L)) (listed' := #[true, true, true, false, false, false, true, true, true, true, false, false, false, false, false]) (by kernel_rfl) (by kernel_rfl) ?_
                    refine TA.all1 (i := 3) (by kernel_rfl) ?_
                    refine TB.of rfl ?_
                    refine TO.ghost (fun _ s => Sat.front 1 rfl s) ?_
                    refine TO.callO kcallB_70_true rfl rfl rfl (fun _ st => C70  hcq142_3_2 st) ?_
                    rintro vq142_3_3 _ ⟨_, rfl, rfl⟩
                    refine TA.back (.inr (fun _ s => Sat.by [9, 9, 9, 9, 9, 7] 6 4 (by kernel_rfl) s)) ?_
                    refine TA.asL (L' := (OwnS 3 1 vq142_3_3 (rq142_3_1.map cI) :: OwnS 3 1 vq142_9_1 (([x133] : List Int).map cI) :: Bx b92 168 [.map (some (mv (cv (gr hs51 x68.toNat) 0))), .map (some (mv (cv (gr hs51 x68.toNat) 1))), (cv (gr hs51 x68.toNat) 2), (cv (gr hs51 x68.toNat) 3)] :: SS 22 3 1 cI v61 hs62 (y64) :: OwnS 3 1 v65 (y67.map cI) :: OwnS 28 1 v47 (y49.map cI) :: Bx b32 75 [v47, v61, v65] :: SN 168 4 nT168 v19 hs51 (y50) :: Bx b8 165 [v19, I x52] :: Bx b4 75 [.slice none 0 0, .slice none 0 0, .slice none 0 0] :: L)) (listed' := #[true, true, true, true, false, false, true, true, true, true, false, false, false, false, false]) (by kernel_rfl) (by kernel_rfl) ?_
                    refine TA.all1 (i := 4) (by kernel_rfl) ?_
                    refine TB.of rfl ?_
                    refine TO.lit1H rfl (OwnS.rd (Ent.at 0 rfl)) kelemB_50_22_1_24_true rfl fun vq142_4_1 => ?_
                    refine TA.back (.inr (fun _ s => Sat.by [10, 10, 10, 10, 10, 8] 6 5 (by kernel_rfl) s)) ?_
                    refine TA.asL (L' := (OwnS 22 1 vq142_4_1 ([()].map (fun (_ : Unit) => [vq142_3_3])) :: OwnS 3 1 vq142_3_3 (rq142_3_1.map cI) :: OwnS 3 1 vq142_9_1 (([x133] : List Int).map cI) :: Bx b92 168 [.map (some (mv (cv (gr hs51 x68.toNat) 0))), .map (some (mv (cv (gr hs51 x68.toNat) 1))), (cv (gr hs51 x68.toNat) 2), (cv (gr hs51 x68.toNat) 3)] :: SS 22 3 1 cI v61 hs62 (y64) :: OwnS 3 1 v65 (y67.map cI) :: OwnS 28 1 v47 (y49.map cI) :: Bx b32 75 [v47, v61, v65] :: SN 168 4 nT168 v19 hs51 (y50) :: Bx b8 165 [v19, I x52] :: Bx b4 75 [.slice none 0 0, .slice none 0 0, .slice none 0 0] :: L)) (listed' := #[true, true, true, true, true, false, true, true, true, true, false, false, false, false, false]) (by kernel_rfl) (by kernel_rfl) ?_
                    refine TA.all1 (i := 5) (by kernel_rfl) ?_
                    refine TB.of rfl ?_
                    refine TO.ghost (fun _ s => Sat.front 4 rfl s) ?_
                    refine TO.ghost (fun _ s => Sat.front 2 rfl s) ?_
                    refine TO.appSS (row := rq142_3_1) rfl kelemB_50_22_1_24_true rfl rfl (OwnS.rd (Ent.at 0 rfl)) hkq142_5_2 rfl rfl fun vq142_5_3 hsq142_5_4 => ?_
                    refine TO.ghost (fun _ s => Sat.erase 1 s) ?_
                    refine TA.back (.inr (fun _ s => Sat.by [8, 8, 8, 8, 8, 7] 6 3 (by kernel_rfl) s)) ?_
                    refine TA.asL (L' := (SS 22 3 1 cI vq142_5_3 hsq142_5_4 (yq142_5_1) :: OwnS 3 1 vq142_9_1 (([x133] : List Int).map cI) :: Bx b92 168 [.map (some (mv (cv (gr hs51 x68.toNat) 0))), .map (some (mv (cv (gr hs51 x68.toNat) 1))), (cv (gr hs51 x68.toNat) 2), (cv (gr hs51 x68.toNat) 3)] :: OwnS 3 1 v65 (y67.map cI) :: OwnS 28 1 v47 (y49.map cI) :: Bx b32 75 [v47, v61, v65] :: SN 168 4 nT168 v19 hs51 (y50) :: Bx b8 165 [v19, I x52] :: Bx b4 75 [.slice none 0 0, .slice none 0 0, .slice none 0 0] :: L)) (listed' := #[true, true, true, true, true, true, true, true, true, true, false, false, false, false, false]) (by kernel_rfl) (by kernel_rfl) ?_
                    refine TA.takeW 11 rfl rfl rfl rfl (StepS.fld rfl kfieldB_75_1_1_true) (by kernel_rfl) (by kernel_rfl) (by kernel_rfl) rfl (.inr (fun _ s => Sat.by [8, 8, 8, 8, 8, 7] 6 3 (by kernel_rfl) s)) ?_
                    refine TA.all1 (i := 10) (by kernel_rfl) ?_
                    refine TB.of rfl ?_
                    refine TO.app (k := 3) (f := cI) kelemB_22_3_1_8_true (by decide) rfl rfl rfl (OwnS.rd (Ent.at 1 rfl)) hkq142_10_2 (fun x c hc => by simp [Value.oneCell'] at hc ⊢; first | (obtain rfl := hc; rfl) | (rcases hc with rfl <;> rfl)) rfl rfl fun vq142_10_3 => ?_
                    refine TA.back (.inr (fun _ s => Sat.by [8, 8, 8, 8, 8, 7] 6 3 (by kernel_rfl) s)) ?_
                    refine TA.asL (L' := (SS 22 3 1 cI vq142_5_3 hsq142_5_4 (yq142_5_1) :: OwnS 3 1 vq142_9_1 (([x133] : List Int).map cI) :: Bx b92 168 [.map (some (mv (cv (gr hs51 x68.toNat) 0))), .map (some (mv (cv (gr hs51 x68.toNat) 1))), (cv (gr hs51 x68.toNat) 2), (cv (gr hs51 x68.toNat) 3)] :: OwnS 3 1 vq142_10_3 (yq142_10_1.map cI) :: OwnS 28 1 v47 (y49.map cI) :: Bx b32 75 [v47, v61, v65] :: SN 168 4 nT168 v19 hs51 (y50) :: Bx b8 165 [v19, I x52] :: Bx b4 75 [.slice none 0 0, .slice none 0 0, .slice none 0 0] :: L)) (listed' := #[true, true, true, true, true, true, true, true, true, true, true, true, false, false, false]) (by kernel_rfl) (by kernel_rfl) ?_
                    refine TA.all1 (i := 12) (by kernel_rfl) ?_
                    refine TB.of rfl ?_
                    refine TO.pure (fun _ s => Rd.one (RR.top (SS.rr (Ent.at 0 rfl))) s) fun ocq142_12_1 => ?_
                    refine TO.stB (us := [vq142_5_3]) 5 [v47, vq142_5_3, v65] rfl rfl rfl ksizeB_50_1_true ocq142_12_1.2 rfl rfl (by intro u hu; simp only [List.mem_cons, List.not_mem_nil, or_false] at hu; rcases hu with rfl <;> first | exact ocq142_12_1.1 | rfl) rfl ?_
                    refine TA.back (.inl (by kernel_rfl)) ?_
                    refine TA.asL (L' := (SS 22 3 1 cI vq142_5_3 hsq142_5_4 (yq142_5_1) :: OwnS 3 1 vq142_9_1 (([x133] : List Int).map cI) :: Bx b92 168 [.map (some (mv (cv (gr hs51 x68.toNat) 0))), .map (some (mv (cv (gr hs51 x68.toNat) 1))), (cv (gr hs51 x68.toNat) 2), (cv (gr hs51 x68.toNat) 3)] :: OwnS 3 1 vq142_10_3 (yq142_10_1.map cI) :: OwnS 28 1 v47 (y49.map cI) :: Bx b32 75 [v47, vq142_5_3, v65] :: SN 168 4 nT168 v19 hs51 (y50) :: Bx b8 165 [v19, I x52] :: Bx b4 75 [.slice none 0 0, .slice none 0 0, .slice none 0 0] :: L)) (listed' := #[true, true, true, true, true, true, true, true, true, true, true, true, true, false, false]) (by kernel_rfl) (by kernel_rfl) ?_
                    refine TA.takeW 13 rfl rfl rfl rfl (StepS.fld rfl kfieldB_75_2_2_true) (by kernel_rfl) (by kernel_rfl) (by kernel_rfl) rfl (.inl (by kernel_rfl)) ?_
                    refine TA.all1 (i := 14) (by kernel_rfl) ?_
                    refine TB.of rfl ?_
                    refine TO.pure (fun _ s => Rd.one (OwnS.rd (Ent.at 3 rfl)) s) fun ocq142_14_1 => ?_
                    refine TO.stB (us := [vq142_10_3]) 5 [v47, vq142_5_3, vq142_10_3] rfl rfl rfl ksizeB_22_1_true ocq142_14_1.2 rfl rfl (by intro u hu; simp only [List.mem_cons, List.not_mem_nil, or_false] at hu; rcases hu with rfl <;> first | exact ocq142_14_1.1 | rfl) rfl ?_
                    refine TA.back (.inl (by kernel_rfl)) ?_
                    refine TA.asL (L' := (SS 22 3 1 cI vq142_5_3 hsq142_5_4 (yq142_5_1) :: OwnS 3 1 vq142_9_1 (([x133] : List Int).map cI) :: Bx b92 168 [.map (some (mv (cv (gr hs51 x68.toNat) 0))), .map (some (mv (cv (gr hs51 x68.toNat) 1))), (cv (gr hs51 x68.toNat) 2), (cv (gr hs51 x68.toNat) 3)] :: OwnS 3 1 vq142_10_3 (yq142_10_1.map cI) :: OwnS 28 1 v47 (y49.map cI) :: Bx b32 75 [v47, vq142_5_3, vq142_10_3] :: SN 168 4 nT168 v19 hs51 (y50) :: Bx b8 165 [v19, I x52] :: Bx b4 75 [.slice none 0 0, .slice none 0 0, .slice none 0 0] :: L)) (listed' := #[true, true, true, true, true, true, true, true, true, true, true, true, true, true, true]) (by kernel_rfl) (by kernel_rfl) ?_
                    cases hj148
                    refine TA.nil (by kernel_rfl) fun a w e s => ?_
                    exact ⟨vq142_5_3, hsq142_5_4, vq142_10_3, e.sub (lk_of_allIn ⟨rfl, rfl, rfl, rfl, rfl, rfl, trivial⟩), s.mono fun _ s => (by exact Sat.by [8, 8, 8, 8, 8, 8, 6, 8] 8 1 (by kernel_rfl) s)⟩
                · intro a w ⟨v144, hs145, v147, he, hs⟩
                  refine TC.use ?_ he hs
                  refine TC.region ?_
                  refine TO.s rfl rfl rfl (StepS.ari rfl rfl rfl) ?_
                  refine TO.s rfl rfl rfl (StepS.move rfl) ?_
                  cases hb86
                  refine TO.nil fun a w e s => ?_
                  exact ⟨v144, hs145, v147, e.sub (lk_of_allIn ⟨rfl, rfl, rfl, rfl, rfl, rfl, trivial⟩), s.mono fun _ => Sat.dropN 1⟩
              · rintro r rfl
                exact fun a w h => h.elim
            · rintro r rfl
              exact fun a w h => h.elim
          · replace hb86 := cond_f hc87 hb86
            cases hb86
            refine TC.exit rfl fun a w e s => ?_
            exact ⟨v61, hs62, v65, e.sub (lk_of_allIn ⟨rfl, rfl, trivial⟩), s⟩
        · exact fun a w e s => ⟨.slice none 0 0, [], .slice none 0 0, e.sub (lk_of_allIn ⟨rfl, rfl, rfl, rfl, rfl, rfl, trivial⟩), s.mono fun _ s => (by replace s := Sat.nilS (e := 3) (sz := 1) (f := cI) s; replace s := Sat.nilSS (e := 22) (ee := 3) (sz := 1) (f := cI) s; exact Sat.by [6, 6, 6, 6, 6, 6, 6] 7 0 (by kernel_rfl) s)⟩
        · rintro ⟨y80, y83⟩ rfl a w ⟨v77, hs78, v81, he, hs⟩
          dsimp only [Ctl.on] at hm
          refine TC.use ?_ he hs
          refine TC.k ?_
          refine TC.region ?_
          refine TO.s rfl rfl rfl (StepS.ldBA rfl (Ent.at 3 rfl) kaggB_75_3_true rfl rfl) ?_
          refine TO.pure (fun _ s => Rd.one (OwnS.rd (Ent.at 2 rfl)) s) fun oc149 => ?_
          refine TO.pure (fun _ s => Rd.one (RR.top (SS.rr (Ent.at 0 rfl))) s) fun oc150 => ?_
          refine TO.pure (fun _ s => Rd.one (OwnS.rd (Ent.at 1 rfl)) s) fun oc151 => ?_
          refine TO.stB (us := [v47, v77, v81]) 6 [v47, v77, v81] rfl rfl rfl ksizeB_75_3_true rfl rfl rfl (by intro u hu; simp only [List.mem_cons, List.not_mem_nil, or_false] at hu; rcases hu with rfl | rfl | rfl <;> first | exact oc149.1 | exact oc150.1 | exact oc151.1 | rfl) rfl ?_
          refine TO.s rfl rfl rfl (StepS.assign rfl) ?_
          refine TO.code ?_
          cases hm
          refine TC.ret fun a w e s => ?_
          refine FRet.cell2 (P := Try.prog) (fn := Try.f36) e s rfl rfl rfl (Ent.at 6 rfl) kaggB_75_3_true rfl ?_
          refine ⟨_, _, rfl, ⟨(v47), (v77), (hs78), (v81), rfl, rfl⟩, ?_⟩
          refine s.mono fun _ s => ?_
          replace s := Sat.front 1 rfl s
          replace s := Sat.front 1 rfl s
          replace s := Sat.front 2 rfl s
          replace s := Sat.erase 3 s
          replace s := Sat.erase 3 s
          replace s := Sat.erase 3 s
          replace s := Sat.erase 3 s
          exact s
        · rintro r rfl
          exact fun a w h => h.elim
      · rintro r rfl
        exact fun a w h => h.elim
    · rintro r rfl
      exact fun a w h => h.elim
end Go.Proofs.Ythfkdepcnhhepaa
