/-
  The walks: each Go function returns what its model says. Written by a program (gen.py).
-/
import Derived.Test.YtadfgohglcglcaaDoorProg
import Derived.KernelRfl
import Derived.Test.YtadfgohglcglcaaDoorSW
import Derived.Test.YtadfgohglcglcaaDoorNW
import Derived.Test.YtadfgohglcglcaaDoorKW
import Derived.Test.YtadfgohglcglcaaDoorXW
import Derived.Test.YtadfgohglcglcaaDoorZM
namespace Go.Proofs.YtadfgohglcglcaaDoor
open Go Go.Bk
set_option linter.unusedVariables false
set_option linter.unnecessarySimpa false
theorem kintB_5_u8_true : intB Tryd.prog 5 .u8 = true := by kernel_rfl
theorem kintB_3_i64_true : intB Tryd.prog 3 .i64 = true := by kernel_rfl
theorem kcallB_12_true : callB Tryd.prog 12 = true := by kernel_rfl
theorem kcallB_28_true : callB Tryd.prog 28 = true := by kernel_rfl
theorem kcallB_14_true : callB Tryd.prog 14 = true := by kernel_rfl
theorem kelemB_22_47_7_72_true : elemB Tryd.prog 22 47 7 72 = true := by kernel_rfl
theorem kcallB_17_true : callB Tryd.prog 17 = true := by kernel_rfl

set_option maxRecDepth 100000 in
theorem C12 {B : World} {L : List HP} {a0 : (List (Int × ByteArray × Int × List ByteArray)) × (List Int) × List Int} {a1 : Int} {a2 : Int} {h0_1 : Value} {h0_2 : List (List Value)} {h0_3 : Value} {h0_4 : Value} {r0 : Bool} (eh0_1 : Ent L (SN 41 4 nT41 h0_1 h0_2 a0.1)) (eh0_3 : Ent L (Rd 1 h0_3 (a0.2.1.map cI))) (eh0_4 : Ent L (Rd 1 h0_4 (a0.2.2.map cI))) (hm : F12 a0 a1 a2 = some r0) {w : World} (st : St B L w) : Calls Tryd.prog 12 #[.agg #[h0_1, h0_3, h0_4], I a1, I a2] w (fun e w' => (e = .returned (.bool r0) ∧ St B (L) w')) := by
  refine calls_of (N := 42) (L := L) (args := [.agg #[h0_1, h0_3, h0_4], I a1, I a2]) Tryd.func12 rfl rfl rfl ?_ st
  dsimp only [F12] at hm
  refine TC.k ?_
  refine TC.region ?_
  refine TO.box (cs := [h0_1, h0_3, h0_4]) rfl rfl rfl fun b4 => ?_
  refine TO.s rfl rfl rfl (StepS.assign rfl) ?_
  refine TO.code ?_
  refine TC.k ?_
  refine TC.k ?_
  refine TC.region ?_
  refine TO.s rfl rfl rfl (StepS.fld rfl kfieldB_26_0_0_true) ?_
  refine TO.s rfl rfl rfl (StepS.ldB rfl (Ent.at 0 rfl) kscalB_23_true rfl) ?_
  refine TO.s rfl rfl rfl (StepS.lenN rfl eh0_1.tl ksliceB_23_41_4_true rfl) ?_
  refine TO.s rfl rfl rfl (StepS.move rfl) ?_
  refine TO.s rfl rfl rfl (StepS.cmp rfl rfl rfl) ?_
  refine TO.s rfl rfl rfl (StepS.move rfl) ?_
  refine TO.mid1 6 20 (.bool (((a0.1.length : Int) != a2) || ((a0.2.1.length : Int) != a1))) ?_ ?_
  · refine bcase (((a0.1.length : Int) != a2)) (fun hb5 => ?_) (fun hb5 => ?_)
    · refine TO.skip rfl rfl rfl (skipT hb5) rfl rfl ?_
      refine TO.skip rfl rfl rfl (skipT hb5) rfl rfl ?_
      refine TO.skip rfl rfl rfl (skipT hb5) rfl rfl ?_
      refine TO.skip rfl rfl rfl (skipT hb5) rfl rfl ?_
      refine TO.skip rfl rfl rfl (skipT hb5) rfl rfl ?_
      refine TO.s rfl rfl rfl (StepS.pickT rfl hb5 rfl) ?_
      exact TO.up1 6 0 rfl rfl (by rw [hb5]; rfl) rfl
    · refine TO.sw rfl rfl rfl hb5 rfl rfl (StepS.fld rfl kfieldB_26_1_1_true) ?_
      refine TO.sw rfl rfl rfl hb5 rfl rfl (StepS.ldB rfl (Ent.at 0 rfl) kscalB_24_true rfl) ?_
      refine TO.sw rfl rfl rfl hb5 rfl rfl (StepS.lenm rfl eh0_3.tl ksliceB_24_3_1_true rfl) ?_
      refine TO.sw rfl rfl rfl hb5 rfl rfl (StepS.move rfl) ?_
      refine TO.sw rfl rfl rfl hb5 rfl rfl (StepS.cmp rfl rfl rfl) ?_
      refine TO.s rfl rfl rfl (StepS.pickF rfl hb5 rfl) ?_
      exact TO.up1 6 0 rfl rfl (by rw [hb5]; rfl) rfl
  refine TO.s rfl rfl rfl (StepS.move rfl) ?_
  refine TO.mid1 5 26 (.bool ((((a0.1.length : Int) != a2) || ((a0.2.1.length : Int) != a1)) || ((a0.2.2.length : Int) != 6))) ?_ ?_
  · refine bcase ((((a0.1.length : Int) != a2) || ((a0.2.1.length : Int) != a1))) (fun hb6 => ?_) (fun hb6 => ?_)
    · refine TO.skip rfl rfl rfl (skipT hb6) rfl rfl ?_
      refine TO.skip rfl rfl rfl (skipT hb6) rfl rfl ?_
      refine TO.skip rfl rfl rfl (skipT hb6) rfl rfl ?_
      refine TO.skip rfl rfl rfl (skipT hb6) rfl rfl ?_
      refine TO.s rfl rfl rfl (StepS.pickT rfl hb6 rfl) ?_
      exact TO.up1 5 0 rfl rfl (by rw [hb6]; rfl) rfl
    · refine TO.sw rfl rfl rfl hb6 rfl rfl (StepS.fld rfl kfieldB_26_2_2_true) ?_
      refine TO.sw rfl rfl rfl hb6 rfl rfl (StepS.ldB rfl (Ent.at 0 rfl) kscalB_24_true rfl) ?_
      refine TO.sw rfl rfl rfl hb6 rfl rfl (StepS.lenm rfl eh0_4.tl ksliceB_24_3_1_true rfl) ?_
      refine TO.sw rfl rfl rfl hb6 rfl rfl (StepS.cmp rfl rfl rfl) ?_
      refine TO.s rfl rfl rfl (StepS.pickF rfl hb6 rfl) ?_
      exact TO.up1 5 0 rfl rfl (by rw [hb6]; rfl) rfl
  refine TO.code ?_
  refine TC.cond rfl (fun hc7 => ?_) (fun hc7 => ?_)
  · replace hm := cond_t hc7 hm
    refine TC.k ?_
    refine TC.region ?_
    refine TO.s rfl rfl rfl (StepS.assign rfl) ?_
    refine TO.code ?_
    cases hm
    refine TC.ret fun a w e s => ?_
    refine FRet.mk1 (P := Tryd.prog) (fn := Tryd.f12) (t := 6) e rfl rfl ?_
    exact ⟨rfl, s.mono fun _ => Sat.dropN 1⟩
  · replace hm := cond_f hc7 hm
    refine TC.skipk ?_
    refine TC.k ?_
    refine TC.k ?_
    refine TC.region_any (Bx b4 26 [h0_1, h0_3, h0_4] :: L) 9 9 kfollows_mixedOrders_true rfl ?_
    refine TA.takeW 1 rfl rfl rfl rfl (StepS.fld rfl kfieldB_26_1_1_true) (by kernel_rfl) (by kernel_rfl) (by kernel_rfl) rfl (.inr (fun _ s => s)) ?_
    refine TA.take 2 rfl rfl rfl rfl (StepS.ldB rfl (Ent.at 0 rfl) kscalB_24_true rfl) (by kernel_rfl) (by kernel_rfl) (by kernel_rfl) (by kernel_rfl) (by kernel_rfl) (fun _ s => s) ?_
    refine TA.takeW 4 rfl rfl rfl rfl (StepS.fld rfl kfieldB_26_2_2_true) (by kernel_rfl) (by kernel_rfl) (by kernel_rfl) rfl (.inr (fun _ s => s)) ?_
    refine TA.take 5 rfl rfl rfl rfl (StepS.ldB rfl (Ent.at 0 rfl) kscalB_24_true rfl) (by kernel_rfl) (by kernel_rfl) (by kernel_rfl) (by kernel_rfl) (by kernel_rfl) (fun _ s => s) ?_
    refine TA.takeW 8 rfl rfl rfl rfl (StepS.move rfl) (by kernel_rfl) (by kernel_rfl) (by kernel_rfl) rfl (.inr (fun _ s => s)) ?_
    refine TA.all1 (i := 0) (by kernel_rfl) ?_
    refine TB.of rfl ?_
    refine TO.lit0 (f := cI) ksliceB_24_3_1_true rfl fun vq8_0_1 => ?_
    refine TA.back (.inr (fun _ s => Sat.by [1] 1 1 (by kernel_rfl) s)) ?_
    refine TA.asL (L' := (OwnS 3 1 vq8_0_1 (([] : List Int).map cI) :: Bx b4 26 [h0_1, h0_3, h0_4] :: L)) (listed' := #[true, true, true, false, true, true, false, false, true]) (by kernel_rfl) (by kernel_rfl) ?_
    refine TA.all1 (i := 3) (by kernel_rfl) ?_
    refine TB.of rfl ?_
    obtain ⟨yq8_3_1, hkq8_3_2, hm⟩ := bind_some hm
    refine TO.app (k := 0) (f := cI) kelemB_24_3_1_8_true (by decide) rfl rfl rfl eh0_3.tl.tl hkq8_3_2 (fun x c hc => by simp [Value.oneCell'] at hc ⊢; first | (obtain rfl := hc; rfl) | (rcases hc with rfl <;> rfl)) rfl rfl fun vq8_3_3 => ?_
    refine TA.back (.inr (fun _ s => Sat.by [1] 1 1 (by kernel_rfl) s)) ?_
    refine TA.asL (L' := (OwnS 3 1 vq8_3_3 (yq8_3_1.map cI) :: Bx b4 26 [h0_1, h0_3, h0_4] :: L)) (listed' := #[true, true, true, true, true, true, false, false, true]) (by kernel_rfl) (by kernel_rfl) ?_
    refine TA.all1 (i := 6) (by kernel_rfl) ?_
    refine TB.of rfl ?_
    obtain ⟨yq8_6_1, hkq8_6_2, hm⟩ := bind_some hm
    refine TO.app (k := 0) (f := cI) kelemB_24_3_1_8_true (by decide) rfl rfl rfl eh0_4.tl.tl hkq8_6_2 (fun x c hc => by simp [Value.oneCell'] at hc ⊢; first | (obtain rfl := hc; rfl) | (rcases hc with rfl <;> rfl)) rfl rfl fun vq8_6_3 => ?_
    refine TA.back (.inr (fun _ s => Sat.by [1] 1 1 (by kernel_rfl) s)) ?_
    refine TA.asL (L' := (OwnS 3 1 vq8_6_3 (yq8_6_1.map cI) :: Bx b4 26 [h0_1, h0_3, h0_4] :: L)) (listed' := #[true, true, true, true, true, true, true, false, true]) (by kernel_rfl) (by kernel_rfl) ?_
    refine TA.all1 (i := 7) (by kernel_rfl) ?_
    refine TB.of rfl ?_
    refine TO.s rfl rfl rfl (StepS.lenm rfl (OwnS.rd (Ent.at 0 rfl)) ksliceB_24_3_1_true rfl) ?_
    refine TA.back (.inr (fun _ s => Sat.by [1] 1 1 (by kernel_rfl) s)) ?_
    refine TA.asL (L' := (OwnS 3 1 vq8_6_3 (yq8_6_1.map cI) :: Bx b4 26 [h0_1, h0_3, h0_4] :: L)) (listed' := #[true, true, true, true, true, true, true, true, true]) (by kernel_rfl) (by kernel_rfl) ?_
    refine TA.code (by kernel_rfl) ?_
    obtain ⟨o11, hw12, hm⟩ := bind_some hm
    refine TC.loop hw12 (fun x9 => fun a w => Mid 42 B [(33, vq8_6_3), (34, I (yq8_6_1.length : Int)), (35, I x9)] (OwnS 3 1 vq8_6_3 (yq8_6_1.map cI) :: Bx b4 26 [h0_1, h0_3, h0_4] :: L) a w) (fun _ => fun a w => Mid 42 B [] (OwnS 3 1 vq8_6_3 (yq8_6_1.map cI) :: Bx b4 26 [h0_1, h0_3, h0_4] :: L) a w) (fun r0 => FRet Tryd.prog Tryd.f12 (fun e w' => (e = .returned (.bool r0) ∧ St B (L) w'))) ?_ ?_ ?_ ?_
    · rintro x9 o11r hb13 a w ⟨he, hs⟩
      dsimp only [F12_L0] at hb13
      refine TC.use ?_ he hs
      refine TC.k ?_
      refine TC.region ?_
      refine TO.s rfl rfl rfl (StepS.cmp rfl rfl rfl) ?_
      refine TO.code ?_
      refine TC.k ?_
      refine TC.cond rfl (fun hc14 => ?_) (fun hc14 => ?_)
      · replace hb13 := cond_t hc14 hb13
        refine TC.skipk ?_
        refine TC.k ?_
        refine TC.block ?_
        refine TC.k ?_
        refine TC.region ?_
        obtain ⟨x15, hx16, hb13⟩ := bind_some hb13
        refine TO.s rfl rfl rfl (StepS.idx rfl rfl (OwnS.rd (Ent.at 0 rfl)) ksliceB_24_3_1_true (idx_spec hx16).1 (idxm_lt hx16)) ?_
        refine TO.s rfl rfl rfl (StepS.ld0 rfl (OwnS.rd (Ent.at 0 rfl)) kscalB_3_true rfl (idxm hx16) rfl) ?_
        refine TO.s rfl rfl rfl (StepS.assign rfl) ?_
        refine TO.code ?_
        refine TC.k ?_
        refine TC.region ?_
        refine TO.s rfl rfl rfl (StepS.move rfl) ?_
        refine TO.s rfl rfl rfl (StepS.cmp rfl rfl rfl) ?_
        refine TO.code ?_
        refine TC.cond rfl (fun hc17 => ?_) (fun hc17 => ?_)
        · replace hb13 := cond_t hc17 hb13
          refine TC.k ?_
          refine TC.region ?_
          refine TO.s rfl rfl rfl (StepS.assign rfl) ?_
          refine TO.code ?_
          cases hb13
          refine TC.ret fun a w e s => ?_
          refine FRet.mk1 (P := Tryd.prog) (fn := Tryd.f12) (t := 6) e rfl rfl ?_
          exact ⟨rfl, s.mono fun _ => Sat.dropN 2⟩
        · replace hb13 := cond_f hc17 hb13
          refine TC.skipk ?_
          refine TC.region ?_
          refine TO.s rfl rfl rfl (StepS.ari rfl rfl rfl) ?_
          refine TO.s rfl rfl rfl (StepS.move rfl) ?_
          cases hb13
          refine TO.nil fun a w e s => ?_
          exact ⟨e.sub (lk_of_allIn ⟨rfl, rfl, rfl, trivial⟩), s⟩
      · replace hb13 := cond_f hc14 hb13
        cases hb13
        refine TC.exit rfl fun a w e s => ?_
        exact ⟨e.sub (lk_of_allIn trivial), s⟩
    · exact fun a w e s => ⟨e.sub (lk_of_allIn ⟨rfl, rfl, rfl, trivial⟩), s⟩
    · rintro _ rfl a w ⟨he, hs⟩
      dsimp only [Ctl.on] at hm
      refine TC.use ?_ he hs
      refine TC.k ?_
      refine TC.region ?_
      refine TO.s rfl rfl rfl (StepS.assign rfl) ?_
      refine TO.code ?_
      cases hm
      refine TC.ret fun a w e s => ?_
      refine FRet.mk1 (P := Tryd.prog) (fn := Tryd.f12) (t := 6) e rfl rfl ?_
      exact ⟨rfl, s.mono fun _ => Sat.dropN 2⟩
    · rintro r rfl
      cases hm
      exact fun a w h => h

set_option maxRecDepth 100000 in
theorem C3 {B : World} {L : List HP} {a0 : Int} {a1 : List (Int × Int × Int × Int × ByteArray × ByteArray × Int)} {a2 : Int} {h1 : Value} {r0 : Bool} (e1 : Ent L (Rd 7 h1 (a1.map cTiiiissi))) (hm : F3 a0 a1 a2 = some r0) {w : World} (st : St B L w) : Calls Tryd.prog 3 #[I a0, h1, .int .u8 a2] w (fun e w' => (e = .returned (.bool r0) ∧ St B (L) w')) := by
  refine calls_of (N := 99) (L := L) (args := [I a0, h1, .int .u8 a2]) Tryd.func3 rfl rfl rfl ?_ st
  dsimp only [F3] at hm
  refine TC.k ?_
  refine TC.region ?_
  refine TO.s rfl rfl rfl (StepS.assign rfl) ?_
  refine TO.code ?_
  refine TC.k ?_
  refine TC.region ?_
  refine TO.s rfl rfl rfl (StepS.move rfl) ?_
  refine TO.s rfl rfl rfl (StepS.cvB kintB_5_u8_true kintB_3_i64_true rfl) ?_
  refine TO.s rfl rfl rfl (StepS.move rfl) ?_
  refine TO.s rfl rfl rfl (StepS.lenm rfl e1 ksliceB_22_47_7_true rfl) ?_
  refine TO.s rfl rfl rfl (StepS.ari rfl rfl rfl) ?_
  obtain ⟨u2, hd1, hm⟩ := bind_some hm
  refine TO.s rfl rfl rfl (StepS.rem rfl rfl (nz_spec hd1)) ?_
  refine TO.s rfl rfl rfl (StepS.assign rfl) ?_
  refine TO.code ?_
  refine TC.k ?_
  refine TC.region ?_
  refine TO.s rfl rfl rfl (StepS.move rfl) ?_
  refine TO.s rfl rfl rfl (StepS.move rfl) ?_
  refine TO.s rfl rfl rfl (StepS.move rfl) ?_
  obtain ⟨y3, hs4, hm⟩ := bind_some hm
  obtain ⟨hs4a, hs4b, hs4c, _⟩ := slI_spec hs4
  refine TO.s rfl rfl rfl (StepS.slc rfl e1 ksliceB_22_47_7_true rfl rfl hs4a hs4b (by simpa using hs4c)) ?_
  obtain ⟨⟨r6, r7⟩, hc8, hm⟩ := bind_some hm
  refine TO.callO kcallB_10_true rfl rfl rfl (fun _ st => C10 (Ent.sub e1 hs4) hc8 st) ?_
  rintro _ _ ⟨v9, hs10, v12, v14, rfl, rfl⟩
  refine TO.s rfl rfl rfl (StepS.move rfl) ?_
  refine TO.s rfl rfl rfl (StepS.extract rfl rfl) ?_
  refine TO.s rfl rfl rfl (StepS.extract rfl rfl) ?_
  refine TO.alloc kinfo_26_bind_zero_some_agg_slice_none_0_0_slice_none_0_0_slice_none_0_0 rfl rfl fun b16 => ?_
  refine TO.pure (fun _ s => Rd.one (SN.top (Ent.at 1 rfl)) s) fun oc17 => ?_
  refine TO.pure (fun _ s => Rd.one (OwnS.rd (Ent.at 2 rfl)) s) fun oc18 => ?_
  refine TO.pure (fun _ s => Rd.one (OwnS.rd (Ent.at 3 rfl)) s) fun oc19 => ?_
  refine TO.stB (us := [v9, v12, v14]) 0 [v9, v12, v14] rfl rfl rfl ksizeB_26_3_true rfl rfl rfl (by intro u hu; simp only [List.mem_cons, List.not_mem_nil, or_false] at hu; rcases hu with rfl | rfl | rfl <;> first | exact oc17.1 | exact oc18.1 | exact oc19.1 | rfl) rfl ?_
  refine TO.s rfl rfl rfl (StepS.assign rfl) ?_
  refine TO.code ?_
  refine TC.k ?_
  refine TC.region ?_
  refine TO.s rfl rfl rfl (StepS.move rfl) ?_
  refine TO.s rfl rfl rfl (StepS.move rfl) ?_
  obtain ⟨⟨r20, r21⟩, hc22, hm⟩ := bind_some hm
  refine TO.callO kcallB_10_true rfl rfl rfl (fun _ st => C10 e1.tl.tl.tl.tl hc22 st) ?_
  rintro _ _ ⟨v23, hs24, v26, v28, rfl, rfl⟩
  refine TO.s rfl rfl rfl (StepS.move rfl) ?_
  refine TO.s rfl rfl rfl (StepS.extract rfl rfl) ?_
  refine TO.s rfl rfl rfl (StepS.extract rfl rfl) ?_
  refine TO.alloc kinfo_26_bind_zero_some_agg_slice_none_0_0_slice_none_0_0_slice_none_0_0 rfl rfl fun b30 => ?_
  refine TO.pure (fun _ s => Rd.one (SN.top (Ent.at 1 rfl)) s) fun oc31 => ?_
  refine TO.pure (fun _ s => Rd.one (OwnS.rd (Ent.at 2 rfl)) s) fun oc32 => ?_
  refine TO.pure (fun _ s => Rd.one (OwnS.rd (Ent.at 3 rfl)) s) fun oc33 => ?_
  refine TO.stB (us := [v23, v26, v28]) 0 [v23, v26, v28] rfl rfl rfl ksizeB_26_3_true rfl rfl rfl (by intro u hu; simp only [List.mem_cons, List.not_mem_nil, or_false] at hu; rcases hu with rfl | rfl | rfl <;> first | exact oc31.1 | exact oc32.1 | exact oc33.1 | rfl) rfl ?_
  refine TO.s rfl rfl rfl (StepS.assign rfl) ?_
  refine TO.code ?_
  refine TC.k ?_
  refine TC.k ?_
  refine TC.region ?_
  refine TO.s rfl rfl rfl (StepS.move rfl) ?_
  refine TO.s rfl rfl rfl (StepS.cmp rfl rfl rfl) ?_
  refine TO.code ?_
  refine TC.cond rfl (fun hc34 => ?_) (fun hc34 => ?_)
  · replace hm := cond_t hc34 hm
    refine TC.k ?_
    refine TC.region ?_
    refine TO.s rfl rfl rfl (StepS.move rfl) ?_
    refine TO.s rfl rfl rfl (StepS.move rfl) ?_
    refine TO.s rfl rfl rfl (StepS.lenm rfl e1.tl.tl.tl.tl.tl.tl.tl.tl ksliceB_22_47_7_true rfl) ?_
    obtain ⟨r35, hc36, hm⟩ := bind_some hm
    refine TO.q rfl rfl rfl (StepQ.call kcallB_11_true rfl rfl (fun _ st => C11  hc36 st)) ?_
    refine TO.s rfl rfl rfl (StepS.cmp rfl rfl rfl) ?_
    refine TO.s rfl rfl rfl (StepS.assign rfl) ?_
    refine TO.code ?_
    cases hm
    refine TC.ret fun a w e s => ?_
    refine FRet.mk1 (P := Tryd.prog) (fn := Tryd.f3) (t := 6) e rfl rfl ?_
    exact ⟨rfl, s.mono fun _ => Sat.dropN 8⟩
  · replace hm := cond_f hc34 hm
    refine TC.skipk ?_
    refine TC.k ?_
    refine TC.k ?_
    refine TC.region_quiet kfollows_mixedOrders_true (by kernel_rfl) ?_
    refine TQ.s rfl rfl rfl (StepS.move rfl).q ?_
    refine TQ.s rfl rfl rfl (StepS.cmp rfl rfl rfl).q ?_
    refine TQ.s rfl rfl rfl (StepS.move rfl).q ?_
    obtain ⟨b38, hj39, hm⟩ := bind_some hm
    refine TQ.mid1 6 49 (.bool b38) ?_ ?_
    · refine bcase ((r7 != 0)) (fun hb37 => ?_) (fun hb37 => ?_)
      · replace hj39 := cond_t hb37 hj39
        cases hj39
        refine TQ.skip rfl rfl rfl (skipT hb37) rfl rfl ?_
        refine TQ.skip rfl rfl rfl (skipT hb37) rfl rfl ?_
        refine TQ.skip rfl rfl rfl (skipT hb37) rfl rfl ?_
        refine TQ.skip rfl rfl rfl (skipT hb37) rfl rfl ?_
        refine TQ.skip rfl rfl rfl (skipT hb37) rfl rfl ?_
        refine TQ.s rfl rfl rfl (StepS.pickT rfl hb37 rfl).q ?_
        exact TQ.up1 6 0 rfl rfl rfl rfl
      · replace hj39 := cond_f hb37 hj39
        refine TQ.sw rfl rfl rfl hb37 rfl rfl (StepS.ldBA rfl (Ent.at 4 rfl) kaggB_26_3_true rfl rfl).q ?_
        refine TQ.sw rfl rfl rfl hb37 rfl rfl (StepS.move rfl).q ?_
        refine TQ.sw rfl rfl rfl hb37 rfl rfl (StepS.move rfl).q ?_
        obtain ⟨r40, hc41, hj39⟩ := bind_some hj39
        refine TQ.sw rfl rfl rfl hb37 rfl rfl (StepQ.call kcallB_12_true rfl rfl (fun _ st => C12 (Ent.at 5 rfl) (OwnS.rd (Ent.at 6 rfl)) (OwnS.rd (Ent.at 7 rfl)) hc41 st)) ?_
        refine TQ.sw rfl rfl rfl hb37 rfl rfl (StepS.not rfl).q ?_
        cases hj39
        refine TQ.s rfl rfl rfl (StepS.pickF rfl hb37 rfl).q ?_
        exact TQ.up1 6 0 rfl rfl rfl rfl
    refine TQ.s rfl rfl rfl (StepS.move rfl).q ?_
    obtain ⟨b43, hj44, hm⟩ := bind_some hm
    refine TQ.mid1 7 57 (.bool b43) ?_ ?_
    · refine bcase (b38) (fun hb42 => ?_) (fun hb42 => ?_)
      · replace hj44 := cond_t hb42 hj44
        cases hj44
        refine TQ.skip rfl rfl rfl (skipT hb42) rfl rfl ?_
        refine TQ.skip rfl rfl rfl (skipT hb42) rfl rfl ?_
        refine TQ.skip rfl rfl rfl (skipT hb42) rfl rfl ?_
        refine TQ.skip rfl rfl rfl (skipT hb42) rfl rfl ?_
        refine TQ.skip rfl rfl rfl (skipT hb42) rfl rfl ?_
        refine TQ.skip rfl rfl rfl (skipT hb42) rfl rfl ?_
        refine TQ.s rfl rfl rfl (StepS.pickT rfl hb42 rfl).q ?_
        exact TQ.up1 7 0 rfl rfl rfl rfl
      · replace hj44 := cond_f hb42 hj44
        refine TQ.sw rfl rfl rfl hb42 rfl rfl (StepS.ldBA rfl (Ent.at 0 rfl) kaggB_26_3_true rfl rfl).q ?_
        refine TQ.sw rfl rfl rfl hb42 rfl rfl (StepS.move rfl).q ?_
        refine TQ.sw rfl rfl rfl hb42 rfl rfl (StepS.move rfl).q ?_
        refine TQ.sw rfl rfl rfl hb42 rfl rfl (StepS.lenm rfl e1.tl.tl.tl.tl.tl.tl.tl.tl ksliceB_22_47_7_true rfl).q ?_
        obtain ⟨r45, hc46, hj44⟩ := bind_some hj44
        refine TQ.sw rfl rfl rfl hb42 rfl rfl (StepQ.call kcallB_12_true rfl rfl (fun _ st => C12 (Ent.at 1 rfl) (OwnS.rd (Ent.at 2 rfl)) (OwnS.rd (Ent.at 3 rfl)) hc46 st)) ?_
        refine TQ.sw rfl rfl rfl hb42 rfl rfl (StepS.not rfl).q ?_
        cases hj44
        refine TQ.s rfl rfl rfl (StepS.pickF rfl hb42 rfl).q ?_
        exact TQ.up1 7 0 rfl rfl rfl rfl
    refine TQ.s rfl rfl rfl (StepS.move rfl).q ?_
    obtain ⟨b48, hj49, hm⟩ := bind_some hm
    refine TQ.mid1 9 67 (.bool b48) ?_ ?_
    · refine bcase (b43) (fun hb47 => ?_) (fun hb47 => ?_)
      · replace hj49 := cond_t hb47 hj49
        cases hj49
        refine TQ.skip rfl rfl rfl (skipT hb47) rfl rfl ?_
        refine TQ.skip rfl rfl rfl (skipT hb47) rfl rfl ?_
        refine TQ.skip rfl rfl rfl (skipT hb47) rfl rfl ?_
        refine TQ.skip rfl rfl rfl (skipT hb47) rfl rfl ?_
        refine TQ.skip rfl rfl rfl (skipT hb47) rfl rfl ?_
        refine TQ.skip rfl rfl rfl (skipT hb47) rfl rfl ?_
        refine TQ.skip rfl rfl rfl (skipT hb47) rfl rfl ?_
        refine TQ.skip rfl rfl rfl (skipT hb47) rfl rfl ?_
        refine TQ.s rfl rfl rfl (StepS.pickT rfl hb47 rfl).q ?_
        exact TQ.up1 9 0 rfl rfl rfl rfl
      · replace hj49 := cond_f hb47 hj49
        refine TQ.sw rfl rfl rfl hb47 rfl rfl (StepS.fld rfl kfieldB_26_0_0_true).q ?_
        refine TQ.sw rfl rfl rfl hb47 rfl rfl (StepS.ldB rfl (Ent.at 4 rfl) kscalB_23_true rfl).q ?_
        refine TQ.sw rfl rfl rfl hb47 rfl rfl (StepS.fld rfl kfieldB_26_0_0_true).q ?_
        refine TQ.sw rfl rfl rfl hb47 rfl rfl (StepS.ldB rfl (Ent.at 0 rfl) kscalB_23_true rfl).q ?_
        refine TQ.sw rfl rfl rfl hb47 rfl rfl (StepS.move rfl).q ?_
        obtain ⟨y50, hs51, hj49⟩ := bind_some hj49
        obtain ⟨hs51a, hs51b, hs51c, _⟩ := slI_spec hs51
        refine TQ.sw rfl rfl rfl hb47 rfl rfl (StepS.slcN rfl (Ent.at 1 rfl) ksliceB_23_41_4_true rfl (fun _ => rfl) hs51).q ?_
        obtain ⟨r52, hc53, hj49⟩ := bind_some hj49
        refine TQ.sw rfl rfl rfl hb47 rfl rfl (StepQ.call kcallB_13_true rfl rfl (fun _ st => C13 (Ent.at 5 rfl) (SN.sub (Ent.at 1 rfl) hs51) hc53 st)) ?_
        refine TQ.sw rfl rfl rfl hb47 rfl rfl (StepS.not rfl).q ?_
        cases hj49
        refine TQ.s rfl rfl rfl (StepS.pickF rfl hb47 rfl).q ?_
        exact TQ.up1 9 0 rfl rfl rfl rfl
    refine TQ.code ?_
    refine TC.cond rfl (fun hc54 => ?_) (fun hc54 => ?_)
    · replace hm := cond_t hc54 hm
      refine TC.k ?_
      refine TC.region ?_
      refine TO.s rfl rfl rfl (StepS.assign rfl) ?_
      refine TO.code ?_
      cases hm
      refine TC.ret fun a w e s => ?_
      refine FRet.mk1 (P := Tryd.prog) (fn := Tryd.f3) (t := 6) e rfl rfl ?_
      exact ⟨rfl, s.mono fun _ => Sat.dropN 8⟩
    · replace hm := cond_f hc54 hm
      refine TC.skipk ?_
      refine TC.k ?_
      refine TC.k ?_
      refine TC.region ?_
      refine TO.s rfl rfl rfl (StepS.assign rfl) ?_
      refine TO.code ?_
      obtain ⟨o57, hw58, hm⟩ := bind_some hm
      refine TC.loop hw58 (fun x55 => fun a w => Mid 99 B [(0, I a0), (8, .pointer (some ⟨b16, 0, none⟩)), (10, .pointer (some ⟨b30, 0, none⟩)), (12, I x55)] (Bx b30 26 [v23, v26, v28] :: SN 41 4 nT41 v23 hs24 (r20.1) :: OwnS 3 1 v26 (r20.2.1.map cI) :: OwnS 3 1 v28 (r20.2.2.map cI) :: Bx b16 26 [v9, v12, v14] :: SN 41 4 nT41 v9 hs10 (r6.1) :: OwnS 3 1 v12 (r6.2.1.map cI) :: OwnS 3 1 v14 (r6.2.2.map cI) :: L) a w) (fun _ => fun a w => Mid 99 B [(0, I a0), (8, .pointer (some ⟨b16, 0, none⟩)), (10, .pointer (some ⟨b30, 0, none⟩))] (Bx b30 26 [v23, v26, v28] :: SN 41 4 nT41 v23 hs24 (r20.1) :: OwnS 3 1 v26 (r20.2.1.map cI) :: OwnS 3 1 v28 (r20.2.2.map cI) :: Bx b16 26 [v9, v12, v14] :: SN 41 4 nT41 v9 hs10 (r6.1) :: OwnS 3 1 v12 (r6.2.1.map cI) :: OwnS 3 1 v14 (r6.2.2.map cI) :: L) a w) (fun r0 => FRet Tryd.prog Tryd.f3 (fun e w' => (e = .returned (.bool r0) ∧ St B (L) w'))) ?_ ?_ ?_ ?_
      · rintro x55 o57r hb59 a w ⟨he, hs⟩
        dsimp only [F3_L0] at hb59
        refine TC.use ?_ he hs
        refine TC.k ?_
        refine TC.k ?_
        refine TC.region ?_
        refine TO.s rfl rfl rfl (StepS.move rfl) ?_
        refine TO.s rfl rfl rfl (StepS.cmp rfl rfl rfl) ?_
        refine TO.code ?_
        refine TC.cond rfl (fun hc60 => ?_) (fun hc60 => ?_)
        · replace hb59 := cond_t hc60 hb59
          refine TC.skipk ?_
          refine TC.k ?_
          refine TC.block ?_
          refine TC.k ?_
          refine TC.region_still kfollows_mixedOrders_true (by kernel_rfl) ?_
          refine TS.s rfl rfl rfl (StepS.fld rfl kfieldB_26_2_2_true) ?_
          refine TS.s rfl rfl rfl (StepS.ldB rfl (Ent.at 0 rfl) kscalB_24_true rfl) ?_
          refine TS.s rfl rfl rfl (StepS.move rfl) ?_
          obtain ⟨x61, hx62, hb59⟩ := bind_some hb59
          refine TS.s rfl rfl rfl (StepS.idx rfl rfl (OwnS.rd (Ent.at 3 rfl)) ksliceB_24_3_1_true (idx_spec hx62).1 (idxm_lt hx62)) ?_
          refine TS.s rfl rfl rfl (StepS.ld0 rfl (OwnS.rd (Ent.at 3 rfl)) kscalB_3_true rfl (idxm hx62) rfl) ?_
          refine TS.s rfl rfl rfl (StepS.fld rfl kfieldB_26_2_2_true) ?_
          refine TS.s rfl rfl rfl (StepS.ldB rfl (Ent.at 4 rfl) kscalB_24_true rfl) ?_
          refine TS.s rfl rfl rfl (StepS.move rfl) ?_
          obtain ⟨x63, hx64, hb59⟩ := bind_some hb59
          refine TS.s rfl rfl rfl (StepS.idx rfl rfl (OwnS.rd (Ent.at 7 rfl)) ksliceB_24_3_1_true (idx_spec hx64).1 (idxm_lt hx64)) ?_
          refine TS.s rfl rfl rfl (StepS.ld0 rfl (OwnS.rd (Ent.at 7 rfl)) kscalB_3_true rfl (idxm hx64) rfl) ?_
          refine TS.s rfl rfl rfl (StepS.cmp rfl rfl rfl) ?_
          refine TS.code ?_
          refine TC.cond rfl (fun hc65 => ?_) (fun hc65 => ?_)
          · replace hb59 := cond_t hc65 hb59
            refine TC.k ?_
            refine TC.region ?_
            refine TO.s rfl rfl rfl (StepS.assign rfl) ?_
            refine TO.code ?_
            cases hb59
            refine TC.ret fun a w e s => ?_
            refine FRet.mk1 (P := Tryd.prog) (fn := Tryd.f3) (t := 6) e rfl rfl ?_
            exact ⟨rfl, s.mono fun _ => Sat.dropN 8⟩
          · replace hb59 := cond_f hc65 hb59
            refine TC.skipk ?_
            refine TC.region ?_
            refine TO.s rfl rfl rfl (StepS.move rfl) ?_
            refine TO.s rfl rfl rfl (StepS.ari rfl rfl rfl) ?_
            refine TO.s rfl rfl rfl (StepS.assign rfl) ?_
            cases hb59
            refine TO.nil fun a w e s => ?_
            exact ⟨e.sub (lk_of_allIn ⟨rfl, rfl, rfl, rfl, trivial⟩), s⟩
        · replace hb59 := cond_f hc60 hb59
          cases hb59
          refine TC.exit rfl fun a w e s => ?_
          exact ⟨e.sub (lk_of_allIn ⟨rfl, rfl, rfl, trivial⟩), s⟩
      · exact fun a w e s => ⟨e.sub (lk_of_allIn ⟨rfl, rfl, rfl, rfl, trivial⟩), s⟩
      · rintro _ rfl a w ⟨he, hs⟩
        dsimp only [Ctl.on] at hm
        refine TC.use ?_ he hs
        refine TC.k ?_
        refine TC.k ?_
        refine TC.region ?_
        refine TO.s rfl rfl rfl (StepS.assign rfl) ?_
        refine TO.code ?_
        obtain ⟨o68, hw69, hm⟩ := bind_some hm
        refine TC.loop hw69 (fun x66 => fun a w => Mid 99 B [(0, I a0), (8, .pointer (some ⟨b16, 0, none⟩)), (10, .pointer (some ⟨b30, 0, none⟩)), (13, I x66)] (Bx b30 26 [v23, v26, v28] :: SN 41 4 nT41 v23 hs24 (r20.1) :: OwnS 3 1 v26 (r20.2.1.map cI) :: OwnS 3 1 v28 (r20.2.2.map cI) :: Bx b16 26 [v9, v12, v14] :: SN 41 4 nT41 v9 hs10 (r6.1) :: OwnS 3 1 v12 (r6.2.1.map cI) :: OwnS 3 1 v14 (r6.2.2.map cI) :: L) a w) (fun _ => fun a w => Mid 99 B [] (Bx b30 26 [v23, v26, v28] :: SN 41 4 nT41 v23 hs24 (r20.1) :: OwnS 3 1 v26 (r20.2.1.map cI) :: OwnS 3 1 v28 (r20.2.2.map cI) :: Bx b16 26 [v9, v12, v14] :: SN 41 4 nT41 v9 hs10 (r6.1) :: OwnS 3 1 v12 (r6.2.1.map cI) :: OwnS 3 1 v14 (r6.2.2.map cI) :: L) a w) (fun r0 => FRet Tryd.prog Tryd.f3 (fun e w' => (e = .returned (.bool r0) ∧ St B (L) w'))) ?_ ?_ ?_ ?_
        · rintro x66 o68r hb70 a w ⟨he, hs⟩
          dsimp only [F3_L1] at hb70
          refine TC.use ?_ he hs
          refine TC.k ?_
          refine TC.k ?_
          refine TC.region ?_
          refine TO.s rfl rfl rfl (StepS.move rfl) ?_
          refine TO.s rfl rfl rfl (StepS.move rfl) ?_
          refine TO.s rfl rfl rfl (StepS.cmp rfl rfl rfl) ?_
          refine TO.code ?_
          refine TC.cond rfl (fun hc71 => ?_) (fun hc71 => ?_)
          · replace hb70 := cond_t hc71 hb70
            refine TC.skipk ?_
            refine TC.k ?_
            refine TC.block ?_
            refine TC.k ?_
            refine TC.region_still kfollows_mixedOrders_true (by kernel_rfl) ?_
            refine TS.s rfl rfl rfl (StepS.fld rfl kfieldB_26_1_1_true) ?_
            refine TS.s rfl rfl rfl (StepS.ldB rfl (Ent.at 0 rfl) kscalB_24_true rfl) ?_
            refine TS.s rfl rfl rfl (StepS.move rfl) ?_
            obtain ⟨x72, hx73, hb70⟩ := bind_some hb70
            refine TS.s rfl rfl rfl (StepS.idx rfl rfl (OwnS.rd (Ent.at 2 rfl)) ksliceB_24_3_1_true (idx_spec hx73).1 (idxm_lt hx73)) ?_
            refine TS.s rfl rfl rfl (StepS.ld0 rfl (OwnS.rd (Ent.at 2 rfl)) kscalB_3_true rfl (idxm hx73) rfl) ?_
            refine TS.s rfl rfl rfl (StepS.fld rfl kfieldB_26_1_1_true) ?_
            refine TS.s rfl rfl rfl (StepS.ldB rfl (Ent.at 4 rfl) kscalB_24_true rfl) ?_
            refine TS.s rfl rfl rfl (StepS.move rfl) ?_
            obtain ⟨x74, hx75, hb70⟩ := bind_some hb70
            refine TS.s rfl rfl rfl (StepS.idx rfl rfl (OwnS.rd (Ent.at 6 rfl)) ksliceB_24_3_1_true (idx_spec hx75).1 (idxm_lt hx75)) ?_
            refine TS.s rfl rfl rfl (StepS.ld0 rfl (OwnS.rd (Ent.at 6 rfl)) kscalB_3_true rfl (idxm hx75) rfl) ?_
            refine TS.s rfl rfl rfl (StepS.cmp rfl rfl rfl) ?_
            refine TS.code ?_
            refine TC.cond rfl (fun hc76 => ?_) (fun hc76 => ?_)
            · replace hb70 := cond_t hc76 hb70
              refine TC.k ?_
              refine TC.region ?_
              refine TO.s rfl rfl rfl (StepS.assign rfl) ?_
              refine TO.code ?_
              cases hb70
              refine TC.ret fun a w e s => ?_
              refine FRet.mk1 (P := Tryd.prog) (fn := Tryd.f3) (t := 6) e rfl rfl ?_
              exact ⟨rfl, s.mono fun _ => Sat.dropN 8⟩
            · replace hb70 := cond_f hc76 hb70
              refine TC.skipk ?_
              refine TC.region ?_
              refine TO.s rfl rfl rfl (StepS.move rfl) ?_
              refine TO.s rfl rfl rfl (StepS.ari rfl rfl rfl) ?_
              refine TO.s rfl rfl rfl (StepS.assign rfl) ?_
              cases hb70
              refine TO.nil fun a w e s => ?_
              exact ⟨e.sub (lk_of_allIn ⟨rfl, rfl, rfl, rfl, trivial⟩), s⟩
          · replace hb70 := cond_f hc71 hb70
            cases hb70
            refine TC.exit rfl fun a w e s => ?_
            exact ⟨e.sub (lk_of_allIn trivial), s⟩
        · exact fun a w e s => ⟨e.sub (lk_of_allIn ⟨rfl, rfl, rfl, rfl, trivial⟩), s⟩
        · rintro _ rfl a w ⟨he, hs⟩
          dsimp only [Ctl.on] at hm
          refine TC.use ?_ he hs
          refine TC.k ?_
          refine TC.region ?_
          refine TO.s rfl rfl rfl (StepS.assign rfl) ?_
          refine TO.code ?_
          cases hm
          refine TC.ret fun a w e s => ?_
          refine FRet.mk1 (P := Tryd.prog) (fn := Tryd.f3) (t := 6) e rfl rfl ?_
          exact ⟨rfl, s.mono fun _ => Sat.dropN 8⟩
        · rintro r rfl
          cases hm
          exact fun a w h => h
      · rintro r rfl
        cases hm
        exact fun a w h => h

set_option maxRecDepth 100000 in
theorem C28 {B : World} {L : List HP} {a0 : Int × Int × Int × Int × ByteArray × ByteArray × Int} {r0 : Bool} (hm : F28 a0 = some r0) {w : World} (st : St B L w) : Calls Tryd.prog 28 #[.agg (cTiiiissi a0).toArray] w (fun e w' => (e = .returned (.bool r0) ∧ St B (L) w')) := by
  refine calls_of (N := 28) (L := L) (args := [.agg (cTiiiissi a0).toArray]) Tryd.func28 rfl rfl rfl ?_ st
  dsimp only [F28] at hm
  refine TC.k ?_
  refine TC.region ?_
  refine TO.box (cs := [I a0.1, I a0.2.1, I a0.2.2.1, I a0.2.2.2.1, .string a0.2.2.2.2.1, .string a0.2.2.2.2.2.1, I a0.2.2.2.2.2.2]) rfl rfl rfl fun b1 => ?_
  refine TO.s rfl rfl rfl (StepS.assign rfl) ?_
  refine TO.code ?_
  refine TC.k ?_
  refine TC.region ?_
  refine TO.s rfl rfl rfl (StepS.fld rfl kfieldB_47_0_0_true) ?_
  refine TO.s rfl rfl rfl (StepS.ldB rfl (Ent.at 0 rfl) kscalB_3_true rfl) ?_
  refine TO.s rfl rfl rfl (StepS.cmp rfl rfl rfl) ?_
  refine TO.s rfl rfl rfl (StepS.move rfl) ?_
  refine TO.mid1 4 10 (.bool ((a0.1 == 1) && (decide (a0.2.1 ≥ 0)))) ?_ ?_
  · refine bcase ((a0.1 == 1)) (fun hb2 => ?_) (fun hb2 => ?_)
    · refine TO.sw rfl rfl rfl hb2 rfl rfl (StepS.fld rfl kfieldB_47_1_1_true) ?_
      refine TO.sw rfl rfl rfl hb2 rfl rfl (StepS.ldB rfl (Ent.at 0 rfl) kscalB_3_true rfl) ?_
      refine TO.sw rfl rfl rfl hb2 rfl rfl (StepS.cmp rfl rfl rfl) ?_
      refine TO.s rfl rfl rfl (StepS.pickT rfl hb2 rfl) ?_
      exact TO.up1 4 0 rfl rfl (by rw [hb2]; rfl) rfl
    · refine TO.skip rfl rfl rfl (skipF hb2) rfl rfl ?_
      refine TO.skip rfl rfl rfl (skipF hb2) rfl rfl ?_
      refine TO.skip rfl rfl rfl (skipF hb2) rfl rfl ?_
      refine TO.s rfl rfl rfl (StepS.pickF rfl hb2 rfl) ?_
      exact TO.up1 4 0 rfl rfl (by rw [hb2]; rfl) rfl
  refine TO.s rfl rfl rfl (StepS.move rfl) ?_
  refine TO.mid1 4 15 (.bool (((a0.1 == 1) && (decide (a0.2.1 ≥ 0))) && (decide (a0.2.1 < 6)))) ?_ ?_
  · refine bcase (((a0.1 == 1) && (decide (a0.2.1 ≥ 0)))) (fun hb3 => ?_) (fun hb3 => ?_)
    · refine TO.sw rfl rfl rfl hb3 rfl rfl (StepS.fld rfl kfieldB_47_1_1_true) ?_
      refine TO.sw rfl rfl rfl hb3 rfl rfl (StepS.ldB rfl (Ent.at 0 rfl) kscalB_3_true rfl) ?_
      refine TO.sw rfl rfl rfl hb3 rfl rfl (StepS.cmp rfl rfl rfl) ?_
      refine TO.s rfl rfl rfl (StepS.pickT rfl hb3 rfl) ?_
      exact TO.up1 4 0 rfl rfl (by rw [hb3]; rfl) rfl
    · refine TO.skip rfl rfl rfl (skipF hb3) rfl rfl ?_
      refine TO.skip rfl rfl rfl (skipF hb3) rfl rfl ?_
      refine TO.skip rfl rfl rfl (skipF hb3) rfl rfl ?_
      refine TO.s rfl rfl rfl (StepS.pickF rfl hb3 rfl) ?_
      exact TO.up1 4 0 rfl rfl (by rw [hb3]; rfl) rfl
  refine TO.s rfl rfl rfl (StepS.move rfl) ?_
  refine TO.mid1 5 21 (.bool ((((a0.1 == 1) && (decide (a0.2.1 ≥ 0))) && (decide (a0.2.1 < 6))) && (decide (a0.2.2.2.1 ≥ 1)))) ?_ ?_
  · refine bcase ((((a0.1 == 1) && (decide (a0.2.1 ≥ 0))) && (decide (a0.2.1 < 6)))) (fun hb4 => ?_) (fun hb4 => ?_)
    · refine TO.sw rfl rfl rfl hb4 rfl rfl (StepS.fld rfl kfieldB_47_3_3_true) ?_
      refine TO.sw rfl rfl rfl hb4 rfl rfl (StepS.fld rfl kfieldB_45_0_0_true) ?_
      refine TO.sw rfl rfl rfl hb4 rfl rfl (StepS.ldB rfl (Ent.at 0 rfl) kscalB_3_true rfl) ?_
      refine TO.sw rfl rfl rfl hb4 rfl rfl (StepS.cmp rfl rfl rfl) ?_
      refine TO.s rfl rfl rfl (StepS.pickT rfl hb4 rfl) ?_
      exact TO.up1 5 0 rfl rfl (by rw [hb4]; rfl) rfl
    · refine TO.skip rfl rfl rfl (skipF hb4) rfl rfl ?_
      refine TO.skip rfl rfl rfl (skipF hb4) rfl rfl ?_
      refine TO.skip rfl rfl rfl (skipF hb4) rfl rfl ?_
      refine TO.skip rfl rfl rfl (skipF hb4) rfl rfl ?_
      refine TO.s rfl rfl rfl (StepS.pickF rfl hb4 rfl) ?_
      exact TO.up1 5 0 rfl rfl (by rw [hb4]; rfl) rfl
  refine TO.s rfl rfl rfl (StepS.move rfl) ?_
  refine TO.mid1 5 27 (.bool (((((a0.1 == 1) && (decide (a0.2.1 ≥ 0))) && (decide (a0.2.1 < 6))) && (decide (a0.2.2.2.1 ≥ 1))) && (decide (a0.2.2.2.1 ≤ 3)))) ?_ ?_
  · refine bcase (((((a0.1 == 1) && (decide (a0.2.1 ≥ 0))) && (decide (a0.2.1 < 6))) && (decide (a0.2.2.2.1 ≥ 1)))) (fun hb5 => ?_) (fun hb5 => ?_)
    · refine TO.sw rfl rfl rfl hb5 rfl rfl (StepS.fld rfl kfieldB_47_3_3_true) ?_
      refine TO.sw rfl rfl rfl hb5 rfl rfl (StepS.fld rfl kfieldB_45_0_0_true) ?_
      refine TO.sw rfl rfl rfl hb5 rfl rfl (StepS.ldB rfl (Ent.at 0 rfl) kscalB_3_true rfl) ?_
      refine TO.sw rfl rfl rfl hb5 rfl rfl (StepS.cmp rfl rfl rfl) ?_
      refine TO.s rfl rfl rfl (StepS.pickT rfl hb5 rfl) ?_
      exact TO.up1 5 0 rfl rfl (by rw [hb5]; rfl) rfl
    · refine TO.skip rfl rfl rfl (skipF hb5) rfl rfl ?_
      refine TO.skip rfl rfl rfl (skipF hb5) rfl rfl ?_
      refine TO.skip rfl rfl rfl (skipF hb5) rfl rfl ?_
      refine TO.skip rfl rfl rfl (skipF hb5) rfl rfl ?_
      refine TO.s rfl rfl rfl (StepS.pickF rfl hb5 rfl) ?_
      exact TO.up1 5 0 rfl rfl (by rw [hb5]; rfl) rfl
  refine TO.s rfl rfl rfl (StepS.assign rfl) ?_
  refine TO.code ?_
  cases hm
  refine TC.ret fun a w e s => ?_
  refine FRet.mk1 (P := Tryd.prog) (fn := Tryd.f28) (t := 2) e rfl rfl ?_
  exact ⟨rfl, s.mono fun _ => Sat.dropN 1⟩

set_option maxRecDepth 100000 in
theorem C14 {B : World} {L : List HP} {a0 : List (Int × Int × Int × Int × ByteArray × ByteArray × Int)} {h0 : Value} {r0 : List (Int × ByteArray × ByteArray × Int)} {r1 : List Int} (e0 : Ent L (Rd 7 h0 (a0.map cTiiiissi))) (hm : F14 a0 = some (r0, r1)) {w : World} (st : St B L w) : Calls Tryd.prog 14 #[h0] w (fun e w' => ∃ v M, e = .returned v ∧ (∃ (qv1 : Value) (qv2 : Value), v = .tuple #[qv1, qv2] ∧ M = (OwnS 45 4 qv1 (r0.map cTissi) :: OwnS 3 1 qv2 (r1.map cI) :: L)) ∧ St B M w') := by
  refine calls_of (N := 29) (L := L) (args := [h0]) Tryd.func14 rfl rfl rfl ?_ st
  dsimp only [F14] at hm
  refine TC.k ?_
  refine TC.region ?_
  refine TO.s rfl rfl rfl (StepS.assign rfl) ?_
  refine TO.s rfl rfl rfl (StepS.assign rfl) ?_
  refine TO.code ?_
  refine TC.k ?_
  refine TC.region ?_
  refine TO.s rfl rfl rfl (StepS.assign rfl) ?_
  refine TO.code ?_
  refine TC.k ?_
  refine TC.region ?_
  refine TO.s rfl rfl rfl (StepS.assign rfl) ?_
  refine TO.code ?_
  refine TC.k ?_
  refine TC.k ?_
  refine TC.region ?_
  refine TO.s rfl rfl rfl (StepS.move rfl) ?_
  refine TO.s rfl rfl rfl (StepS.lenm rfl e0 ksliceB_22_47_7_true rfl) ?_
  refine TO.s rfl rfl rfl (StepS.move rfl) ?_
  refine TO.code ?_
  obtain ⟨o23, hw24, hm⟩ := bind_some hm
  refine TC.loop hw24 (fun (y5, y8, x9) => fun a w => ∃ v3 : Value, ∃ v6 : Value, Mid 29 B [(4, v3), (5, v6), (8, h0), (9, I (a0.length : Int)), (10, I x9)] (OwnS 45 4 v3 (y5.map cTissi) :: OwnS 3 1 v6 (y8.map cI) :: L) a w) (fun (y19, y22) => fun a w => ∃ v17 : Value, ∃ v20 : Value, Mid 29 B [(4, v17), (5, v20)] (OwnS 45 4 v17 (y19.map cTissi) :: OwnS 3 1 v20 (y22.map cI) :: L) a w) (fun (_ : Unit) _ _ => False) ?_ ?_ ?_ ?_
  · rintro ⟨y5, y8, x9⟩ o23r hb25 a w ⟨v3, v6, he, hs⟩
    dsimp only [F14_L0] at hb25
    refine TC.use ?_ he hs
    refine TC.k ?_
    refine TC.region ?_
    refine TO.s rfl rfl rfl (StepS.cmp rfl rfl rfl) ?_
    refine TO.code ?_
    refine TC.k ?_
    refine TC.cond rfl (fun hc26 => ?_) (fun hc26 => ?_)
    · replace hb25 := cond_t hc26 hb25
      refine TC.skipk ?_
      refine TC.k ?_
      obtain ⟨⟨y27, y29⟩, hj31, hb25⟩ := bind_some hb25
      first | refine TC.cutM (fun a w => ∃ v28 : Value, ∃ v30 : Value, Mid 29 B [(4, v28), (5, v30), (8, h0), (9, I (a0.length : Int)), (10, I x9)] (OwnS 45 4 v28 (y27.map cTissi) :: OwnS 3 1 v30 (y29.map cI) :: L) a w) ?_ ?_ | refine TC.cutX (fun a w => ∃ v28 : Value, ∃ v30 : Value, Mid 29 B [(4, v28), (5, v30), (8, h0), (9, I (a0.length : Int)), (10, I x9)] (OwnS 45 4 v28 (y27.map cTissi) :: OwnS 3 1 v30 (y29.map cI) :: L) a w) ?_ ?_
      · refine TC.block ?_
        refine TC.k ?_
        refine TC.region ?_
        refine TO.s rfl rfl rfl (StepS.move rfl) ?_
        obtain ⟨x32, hx33, hj31⟩ := bind_some hj31
        refine TO.s rfl rfl rfl (StepS.idx rfl rfl e0.tl.tl ksliceB_22_47_7_true (idx_spec hx33).1 (idxm_lt hx33)) ?_
        refine TO.s rfl rfl rfl (StepS.ldE rfl e0.tl.tl kaggB_47_7_true rfl (idxm hx33)) ?_
        refine TO.alloc kinfo_47_bind_zero_some_agg_I_0_I_0_I_0_I_0_string_ByteArray_empty_string_ByteArray_empty_I_0 rfl rfl fun b34 => ?_
        refine TO.s rfl rfl rfl (StepS.assign rfl) ?_
        refine TO.stB (us := [I x32.1, I x32.2.1, I x32.2.2.1, I x32.2.2.2.1, .string x32.2.2.2.2.1, .string x32.2.2.2.2.2.1, I x32.2.2.2.2.2.2]) 0 [I x32.1, I x32.2.1, I x32.2.2.1, I x32.2.2.2.1, .string x32.2.2.2.2.1, .string x32.2.2.2.2.2.1, I x32.2.2.2.2.2.2] rfl rfl rfl ksizeB_47_7_true rfl rfl rfl (by simp [Value.oneCell']) rfl ?_
        refine TO.code ?_
        refine TC.k ?_
        refine TC.region ?_
        refine TO.s rfl rfl rfl (StepS.ldBA rfl (Ent.at 0 rfl) kaggB_47_7_true rfl rfl) ?_
        obtain ⟨r35, hc36, hj31⟩ := bind_some hj31
        refine TO.q rfl rfl rfl (StepQ.call kcallB_28_true rfl rfl (fun _ st => C28  hc36 st)) ?_
        refine TO.code ?_
        refine TC.cond rfl (fun hc37 => ?_) (fun hc37 => ?_)
        · replace hj31 := cond_t hc37 hj31
          refine TC.k ?_
          refine TC.region ?_
          refine TO.s rfl rfl rfl (StepS.move rfl) ?_
          refine TO.s rfl rfl rfl (StepS.fld rfl kfieldB_47_3_3_true) ?_
          refine TO.s rfl rfl rfl (StepS.ldBA rfl (Ent.at 0 rfl) kaggB_45_4_true rfl rfl) ?_
          refine TO.litS (f := cTissi) ([(x32.2.2.2.1, x32.2.2.2.2.1, x32.2.2.2.2.2.1, x32.2.2.2.2.2.2)] : List (Int × ByteArray × ByteArray × Int)) kelemB_34_45_4_48_true kinfo_45_bind_zero_some_agg_I_0_string_ByteArray_empty_string_ByteArray_empty_I_0 rfl rfl (fun _ => rfl) rfl rfl (by kernel_rfl) rfl fun v38 => ?_
          obtain ⟨y40, hk41, hj31⟩ := bind_some hj31
          refine TO.app (k := 2) (f := cTissi) kelemB_34_45_4_48_true (by decide) rfl rfl rfl (OwnS.rd (Ent.at 0 rfl)) hk41 (fun x c hc => by simp [Value.oneCell'] at hc ⊢; first | (obtain rfl := hc; rfl) | (rcases hc with rfl | rfl | rfl | rfl <;> rfl)) rfl rfl fun v42 => ?_
          refine TO.s rfl rfl rfl (StepS.assign rfl) ?_
          refine TO.code ?_
          refine TC.region ?_
          refine TO.s rfl rfl rfl (StepS.move rfl) ?_
          refine TO.s rfl rfl rfl (StepS.move rfl) ?_
          refine TO.litS (f := cI) ([x9] : List Int) kelemB_24_3_1_8_true kinfo_3_bind_zero_some_I_0 rfl rfl (fun _ => rfl) rfl rfl (by kernel_rfl) rfl fun v43 => ?_
          obtain ⟨y45, hk46, hj31⟩ := bind_some hj31
          refine TO.app (k := 4) (f := cI) kelemB_24_3_1_8_true (by decide) rfl rfl rfl (OwnS.rd (Ent.at 0 rfl)) hk46 (fun x c hc => by simp [Value.oneCell'] at hc ⊢; first | (obtain rfl := hc; rfl) | (rcases hc with rfl <;> rfl)) rfl rfl fun v47 => ?_
          refine TO.s rfl rfl rfl (StepS.assign rfl) ?_
          cases hj31
          refine TO.nil fun a w e s => ?_
          exact ⟨v42, v47, e.sub (lk_of_allIn ⟨rfl, rfl, rfl, rfl, rfl, trivial⟩), s.mono fun _ => Sat.dropN 3⟩
        · replace hj31 := cond_f hc37 hj31
          cases hj31
          refine TC.skip fun a w e s => ?_
          exact ⟨v3, v6, e.sub (lk_of_allIn ⟨rfl, rfl, rfl, rfl, rfl, trivial⟩), s.mono fun _ => Sat.dropN 1⟩
      · intro a w ⟨v28, v30, he, hs⟩
        refine TC.use ?_ he hs
        refine TC.region ?_
        refine TO.s rfl rfl rfl (StepS.ari rfl rfl rfl) ?_
        refine TO.s rfl rfl rfl (StepS.move rfl) ?_
        cases hb25
        refine TO.nil fun a w e s => ?_
        exact ⟨v28, v30, e.sub (lk_of_allIn ⟨rfl, rfl, rfl, rfl, rfl, trivial⟩), s⟩
    · replace hb25 := cond_f hc26 hb25
      cases hb25
      refine TC.exit rfl fun a w e s => ?_
      exact ⟨v3, v6, e.sub (lk_of_allIn ⟨rfl, rfl, trivial⟩), s⟩
  · exact fun a w e s => ⟨.slice none 0 0, .slice none 0 0, e.sub (lk_of_allIn ⟨rfl, rfl, rfl, rfl, rfl, trivial⟩), s.mono fun _ s => (by replace s := Sat.nilS (e := 3) (sz := 1) (f := cI) s; replace s := Sat.nilS (e := 45) (sz := 4) (f := cTissi) s; exact Sat.by [1, 1] 2 0 (by kernel_rfl) s)⟩
  · rintro ⟨y19, y22⟩ rfl a w ⟨v17, v20, he, hs⟩
    dsimp only [Ctl.on] at hm
    refine TC.use ?_ he hs
    refine TC.k ?_
    refine TC.region ?_
    refine TO.s rfl rfl rfl (StepS.move rfl) ?_
    refine TO.s rfl rfl rfl (StepS.move rfl) ?_
    refine TO.s rfl rfl rfl (StepS.assign rfl) ?_
    refine TO.s rfl rfl rfl (StepS.assign rfl) ?_
    refine TO.code ?_
    cases hm
    refine TC.ret fun a w e s => ?_
    refine FRet.mk2 (P := Tryd.prog) (fn := Tryd.f14) (t := 2) (u := 3) e rfl rfl rfl ?_
    refine ⟨_, _, rfl, ⟨(v17), (v20), rfl, rfl⟩, ?_⟩
    refine s.mono fun _ s => ?_
    replace s := Sat.front 1 rfl s
    replace s := Sat.front 1 rfl s
    exact s
  · rintro r rfl
    exact fun a w h => h.elim

set_option maxRecDepth 100000 in
theorem C4 {B : World} {L : List HP} {a0 : Int} {a1 : List (Int × Int × Int × Int × ByteArray × ByteArray × Int)} {h1 : Value} {r0 : Bool} (e1 : Ent L (Rd 7 h1 (a1.map cTiiiissi))) (hm : F4 a0 a1 = some r0) {w : World} (st : St B L w) : Calls Tryd.prog 4 #[I a0, h1] w (fun e w' => (e = .returned (.bool r0) ∧ St B (L) w')) := by
  refine calls_of (N := 93) (L := L) (args := [I a0, h1]) Tryd.func4 rfl rfl rfl ?_ st
  dsimp only [F4] at hm
  refine TC.k ?_
  refine TC.region ?_
  refine TO.s rfl rfl rfl (StepS.assign rfl) ?_
  refine TO.code ?_
  refine TC.k ?_
  refine TC.region ?_
  refine TO.s rfl rfl rfl (StepS.move rfl) ?_
  refine TO.s rfl rfl rfl (StepS.move rfl) ?_
  obtain ⟨⟨r1, r2⟩, hc3, hm⟩ := bind_some hm
  refine TO.callO kcallB_10_true rfl rfl rfl (fun _ st => C10 e1 hc3 st) ?_
  rintro _ _ ⟨v4, hs5, v7, v9, rfl, rfl⟩
  refine TO.s rfl rfl rfl (StepS.move rfl) ?_
  refine TO.s rfl rfl rfl (StepS.extract rfl rfl) ?_
  refine TO.s rfl rfl rfl (StepS.extract rfl rfl) ?_
  refine TO.alloc kinfo_26_bind_zero_some_agg_slice_none_0_0_slice_none_0_0_slice_none_0_0 rfl rfl fun b11 => ?_
  refine TO.pure (fun _ s => Rd.one (SN.top (Ent.at 1 rfl)) s) fun oc12 => ?_
  refine TO.pure (fun _ s => Rd.one (OwnS.rd (Ent.at 2 rfl)) s) fun oc13 => ?_
  refine TO.pure (fun _ s => Rd.one (OwnS.rd (Ent.at 3 rfl)) s) fun oc14 => ?_
  refine TO.stB (us := [v4, v7, v9]) 0 [v4, v7, v9] rfl rfl rfl ksizeB_26_3_true rfl rfl rfl (by intro u hu; simp only [List.mem_cons, List.not_mem_nil, or_false] at hu; rcases hu with rfl | rfl | rfl <;> first | exact oc12.1 | exact oc13.1 | exact oc14.1 | rfl) rfl ?_
  refine TO.s rfl rfl rfl (StepS.assign rfl) ?_
  refine TO.code ?_
  refine TC.k ?_
  refine TC.k ?_
  refine TC.region ?_
  refine TO.s rfl rfl rfl (StepS.move rfl) ?_
  refine TO.s rfl rfl rfl (StepS.move rfl) ?_
  refine TO.s rfl rfl rfl (StepS.lenm rfl e1.tl.tl.tl.tl ksliceB_22_47_7_true rfl) ?_
  obtain ⟨r15, hc16, hm⟩ := bind_some hm
  refine TO.q rfl rfl rfl (StepQ.call kcallB_11_true rfl rfl (fun _ st => C11  hc16 st)) ?_
  refine TO.s rfl rfl rfl (StepS.cmp rfl rfl rfl) ?_
  refine TO.code ?_
  refine TC.cond rfl (fun hc17 => ?_) (fun hc17 => ?_)
  · replace hm := cond_t hc17 hm
    refine TC.k ?_
    refine TC.region ?_
    refine TO.s rfl rfl rfl (StepS.move rfl) ?_
    refine TO.s rfl rfl rfl (StepS.cmp rfl rfl rfl) ?_
    refine TO.s rfl rfl rfl (StepS.assign rfl) ?_
    refine TO.code ?_
    cases hm
    refine TC.ret fun a w e s => ?_
    refine FRet.mk1 (P := Tryd.prog) (fn := Tryd.f4) (t := 4) e rfl rfl ?_
    exact ⟨rfl, s.mono fun _ => Sat.dropN 4⟩
  · replace hm := cond_f hc17 hm
    refine TC.skipk ?_
    refine TC.k ?_
    refine TC.k ?_
    refine TC.region ?_
    refine TO.s rfl rfl rfl (StepS.move rfl) ?_
    refine TO.s rfl rfl rfl (StepS.cmp rfl rfl rfl) ?_
    refine TO.s rfl rfl rfl (StepS.move rfl) ?_
    obtain ⟨b19, hj20, hm⟩ := bind_some hm
    refine TO.mid1 7 37 (.bool b19) ?_ ?_
    · refine bcase ((r2 != 0)) (fun hb18 => ?_) (fun hb18 => ?_)
      · replace hj20 := cond_t hb18 hj20
        cases hj20
        refine TO.skip rfl rfl rfl (skipT hb18) rfl rfl ?_
        refine TO.skip rfl rfl rfl (skipT hb18) rfl rfl ?_
        refine TO.skip rfl rfl rfl (skipT hb18) rfl rfl ?_
        refine TO.skip rfl rfl rfl (skipT hb18) rfl rfl ?_
        refine TO.skip rfl rfl rfl (skipT hb18) rfl rfl ?_
        refine TO.skip rfl rfl rfl (skipT hb18) rfl rfl ?_
        refine TO.s rfl rfl rfl (StepS.pickT rfl hb18 rfl) ?_
        exact TO.up1 7 0 rfl rfl rfl rfl
      · replace hj20 := cond_f hb18 hj20
        refine TO.sw rfl rfl rfl hb18 rfl rfl (StepS.ldBA rfl (Ent.at 0 rfl) kaggB_26_3_true rfl rfl) ?_
        refine TO.sw rfl rfl rfl hb18 rfl rfl (StepS.move rfl) ?_
        refine TO.sw rfl rfl rfl hb18 rfl rfl (StepS.move rfl) ?_
        refine TO.sw rfl rfl rfl hb18 rfl rfl (StepS.lenm rfl e1.tl.tl.tl.tl ksliceB_22_47_7_true rfl) ?_
        obtain ⟨r21, hc22, hj20⟩ := bind_some hj20
        refine TO.qw rfl rfl rfl hb18 rfl rfl (StepQ.call kcallB_12_true rfl rfl (fun _ st => C12 (Ent.at 1 rfl) (OwnS.rd (Ent.at 2 rfl)) (OwnS.rd (Ent.at 3 rfl)) hc22 st)) ?_
        refine TO.sw rfl rfl rfl hb18 rfl rfl (StepS.not rfl) ?_
        cases hj20
        refine TO.s rfl rfl rfl (StepS.pickF rfl hb18 rfl) ?_
        exact TO.up1 7 0 rfl rfl rfl rfl
    refine TO.code ?_
    refine TC.cond rfl (fun hc23 => ?_) (fun hc23 => ?_)
    · replace hm := cond_t hc23 hm
      refine TC.k ?_
      refine TC.region ?_
      refine TO.s rfl rfl rfl (StepS.assign rfl) ?_
      refine TO.code ?_
      cases hm
      refine TC.ret fun a w e s => ?_
      refine FRet.mk1 (P := Tryd.prog) (fn := Tryd.f4) (t := 4) e rfl rfl ?_
      exact ⟨rfl, s.mono fun _ => Sat.dropN 4⟩
    · replace hm := cond_f hc23 hm
      refine TC.skipk ?_
      refine TC.k ?_
      refine TC.region ?_
      refine TO.s rfl rfl rfl (StepS.move rfl) ?_
      obtain ⟨⟨r24, r25⟩, hc26, hm⟩ := bind_some hm
      refine TO.callO kcallB_14_true rfl rfl rfl (fun _ st => C14 e1.tl.tl.tl.tl hc26 st) ?_
      rintro _ _ ⟨v27, v29, rfl, rfl⟩
      refine TO.s rfl rfl rfl (StepS.move rfl) ?_
      refine TO.s rfl rfl rfl (StepS.extract rfl rfl) ?_
      refine TO.s rfl rfl rfl (StepS.extract rfl rfl) ?_
      refine TO.s rfl rfl rfl (StepS.assign rfl) ?_
      refine TO.s rfl rfl rfl (StepS.assign rfl) ?_
      refine TO.code ?_
      refine TC.k ?_
      refine TC.region ?_
      refine TO.s rfl rfl rfl (StepS.move rfl) ?_
      obtain ⟨⟨r31, r32⟩, hc33, hm⟩ := bind_some hm
      refine TO.callO kcallB_15_true rfl rfl rfl (fun _ st => C15 (OwnS.rd (Ent.at 0 rfl)) hc33 st) ?_
      rintro _ _ ⟨v34, hs35, rfl, rfl⟩
      refine TO.s rfl rfl rfl (StepS.move rfl) ?_
      refine TO.s rfl rfl rfl (StepS.extract rfl rfl) ?_
      refine TO.s rfl rfl rfl (StepS.extract rfl rfl) ?_
      refine TO.s rfl rfl rfl (StepS.assign rfl) ?_
      refine TO.s rfl rfl rfl (StepS.assign rfl) ?_
      refine TO.code ?_
      refine TC.k ?_
      refine TC.k ?_
      refine TC.region ?_
      refine TO.s rfl rfl rfl (StepS.move rfl) ?_
      refine TO.s rfl rfl rfl (StepS.cmp rfl rfl rfl) ?_
      refine TO.s rfl rfl rfl (StepS.move rfl) ?_
      refine TO.mid1 6 56 (.bool ((r32 != 0) || ((r31.length : Int) != (r24.length : Int)))) ?_ ?_
      · refine bcase ((r32 != 0)) (fun hb37 => ?_) (fun hb37 => ?_)
        · refine TO.skip rfl rfl rfl (skipT hb37) rfl rfl ?_
          refine TO.skip rfl rfl rfl (skipT hb37) rfl rfl ?_
          refine TO.skip rfl rfl rfl (skipT hb37) rfl rfl ?_
          refine TO.skip rfl rfl rfl (skipT hb37) rfl rfl ?_
          refine TO.skip rfl rfl rfl (skipT hb37) rfl rfl ?_
          refine TO.s rfl rfl rfl (StepS.pickT rfl hb37 rfl) ?_
          exact TO.up1 6 0 rfl rfl (by rw [hb37]; rfl) rfl
        · refine TO.sw rfl rfl rfl hb37 rfl rfl (StepS.move rfl) ?_
          refine TO.sw rfl rfl rfl hb37 rfl rfl (StepS.lenN rfl (Ent.at 0 rfl) ksliceB_23_41_4_true rfl) ?_
          refine TO.sw rfl rfl rfl hb37 rfl rfl (StepS.move rfl) ?_
          refine TO.sw rfl rfl rfl hb37 rfl rfl (StepS.lenm rfl (OwnS.rd (Ent.at 1 rfl)) ksliceB_34_45_4_true rfl) ?_
          refine TO.sw rfl rfl rfl hb37 rfl rfl (StepS.cmp rfl rfl rfl) ?_
          refine TO.s rfl rfl rfl (StepS.pickF rfl hb37 rfl) ?_
          exact TO.up1 6 0 rfl rfl (by rw [hb37]; rfl) rfl
      refine TO.code ?_
      refine TC.cond rfl (fun hc38 => ?_) (fun hc38 => ?_)
      · replace hm := cond_t hc38 hm
        refine TC.k ?_
        refine TC.region ?_
        refine TO.s rfl rfl rfl (StepS.assign rfl) ?_
        refine TO.code ?_
        cases hm
        refine TC.ret fun a w e s => ?_
        refine FRet.mk1 (P := Tryd.prog) (fn := Tryd.f4) (t := 4) e rfl rfl ?_
        exact ⟨rfl, s.mono fun _ => Sat.dropN 7⟩
      · replace hm := cond_f hc38 hm
        refine TC.skipk ?_
        refine TC.k ?_
        refine TC.k ?_
        refine TC.region ?_
        refine TO.s rfl rfl rfl (StepS.move rfl) ?_
        refine TO.s rfl rfl rfl (StepS.lenN rfl (Ent.at 0 rfl) ksliceB_23_41_4_true rfl) ?_
        refine TO.s rfl rfl rfl (StepS.move rfl) ?_
        refine TO.code ?_
        obtain ⟨o41, hw42, hm⟩ := bind_some hm
        refine TC.loop hw42 (fun x39 => fun a w => Mid 93 B [(5, .pointer (some ⟨b11, 0, none⟩)), (7, v27), (8, v29), (57, v34), (58, I (r31.length : Int)), (59, I x39)] (SN 41 4 nT41 v34 hs35 (r31) :: OwnS 45 4 v27 (r24.map cTissi) :: OwnS 3 1 v29 (r25.map cI) :: Bx b11 26 [v4, v7, v9] :: SN 41 4 nT41 v4 hs5 (r1.1) :: OwnS 3 1 v7 (r1.2.1.map cI) :: OwnS 3 1 v9 (r1.2.2.map cI) :: L) a w) (fun _ => fun a w => Mid 93 B [(5, .pointer (some ⟨b11, 0, none⟩)), (7, v27)] (SN 41 4 nT41 v34 hs35 (r31) :: OwnS 45 4 v27 (r24.map cTissi) :: OwnS 3 1 v29 (r25.map cI) :: Bx b11 26 [v4, v7, v9] :: SN 41 4 nT41 v4 hs5 (r1.1) :: OwnS 3 1 v7 (r1.2.1.map cI) :: OwnS 3 1 v9 (r1.2.2.map cI) :: L) a w) (fun r0 => FRet Tryd.prog Tryd.f4 (fun e w' => (e = .returned (.bool r0) ∧ St B (L) w'))) ?_ ?_ ?_ ?_
        · rintro x39 o41r hb43 a w ⟨he, hs⟩
          dsimp only [F4_L0] at hb43
          refine TC.use ?_ he hs
          refine TC.k ?_
          refine TC.region ?_
          refine TO.s rfl rfl rfl (StepS.cmp rfl rfl rfl) ?_
          refine TO.code ?_
          refine TC.k ?_
          refine TC.cond rfl (fun hc44 => ?_) (fun hc44 => ?_)
          · replace hb43 := cond_t hc44 hb43
            refine TC.skipk ?_
            refine TC.k ?_
            refine TC.block ?_
            refine TC.k ?_
            refine TC.region ?_
            refine TO.s rfl rfl rfl (StepS.move rfl) ?_
            obtain ⟨x45, hx46, hb43⟩ := bind_some hb43
            refine TO.s rfl rfl rfl (StepS.idxN rfl rfl (Ent.at 0 rfl) ksliceB_23_41_4_true hx46) ?_
            refine TO.s rfl rfl rfl (StepS.ldNE (cs := [I x45.1, .string x45.2.1, I x45.2.2.1, (cv (gr hs35 x39.toNat) 0)]) rfl (Ent.at 0 rfl) kaggB_41_4_true hx46 rfl rfl) ?_
            refine TO.alloc kinfo_41_bind_zero_some_agg_I_0_string_ByteArray_empty_I_0_slice_none_0_0 rfl rfl fun b47 => ?_
            refine TO.s rfl rfl rfl (StepS.assign rfl) ?_
            refine TO.pure (fun _ s => Rd.one (OwnS.rd (SN.piece (Ent.at 1 rfl) hx46 0 rfl)) s) fun oc48 => ?_
            refine TO.stB (us := [I x45.1, .string x45.2.1, I x45.2.2.1, (cv (gr hs35 x39.toNat) 0)]) 0 [I x45.1, .string x45.2.1, I x45.2.2.1, (cv (gr hs35 x39.toNat) 0)] rfl rfl rfl ksizeB_41_4_true rfl rfl rfl (by intro u hu; simp only [List.mem_cons, List.not_mem_nil, or_false] at hu; rcases hu with rfl | rfl | rfl | rfl <;> first | exact oc48.1 | rfl) rfl ?_
            refine TO.code ?_
            refine TC.k ?_
            refine TC.region_quiet kfollows_mixedOrders_true (by kernel_rfl) ?_
            refine TQ.s rfl rfl rfl (StepS.ldBA rfl (Ent.at 0 rfl) kaggB_41_4_true rfl rfl).q ?_
            refine TQ.s rfl rfl rfl (StepS.fld rfl kfieldB_26_0_0_true).q ?_
            refine TQ.s rfl rfl rfl (StepS.ldB rfl (Ent.at 4 rfl) kscalB_23_true rfl).q ?_
            refine TQ.s rfl rfl rfl (StepS.move rfl).q ?_
            refine TQ.s rfl rfl rfl (StepS.move rfl).q ?_
            obtain ⟨x49, hx50, hb43⟩ := bind_some hb43
            refine TQ.s rfl rfl rfl (StepS.idx rfl rfl (OwnS.rd (Ent.at 3 rfl)) ksliceB_24_3_1_true (idx_spec hx50).1 (idxm_lt hx50)).q ?_
            refine TQ.s rfl rfl rfl (StepS.ld0 rfl (OwnS.rd (Ent.at 3 rfl)) kscalB_3_true rfl (idxm hx50) rfl).q ?_
            obtain ⟨x51, hx52, hb43⟩ := bind_some hb43
            refine TQ.s rfl rfl rfl (StepS.idxN rfl rfl (Ent.at 5 rfl) ksliceB_23_41_4_true hx52).q ?_
            refine TQ.s rfl rfl rfl (StepS.ldNE (cs := [I x51.1, .string x51.2.1, I x51.2.2.1, (cv (gr hs5 x49.toNat) 0)]) rfl (Ent.at 5 rfl) kaggB_41_4_true hx52 rfl rfl).q ?_
            obtain ⟨r53, hc54, hb43⟩ := bind_some hb43
            refine TQ.s rfl rfl rfl (StepQ.call kcallB_16_true rfl rfl (fun _ st => C16 (OwnS.rd (SN.piece (Ent.at 1 rfl) hx46 0 rfl)) (OwnS.rd (SN.piece (Ent.at 5 rfl) hx52 0 rfl)) hc54 st)) ?_
            refine TQ.s rfl rfl rfl (StepS.not rfl).q ?_
            refine TQ.code ?_
            refine TC.cond rfl (fun hc55 => ?_) (fun hc55 => ?_)
            · replace hb43 := cond_t hc55 hb43
              refine TC.k ?_
              refine TC.region ?_
              refine TO.s rfl rfl rfl (StepS.assign rfl) ?_
              refine TO.code ?_
              cases hb43
              refine TC.ret fun a w e s => ?_
              refine FRet.mk1 (P := Tryd.prog) (fn := Tryd.f4) (t := 4) e rfl rfl ?_
              exact ⟨rfl, s.mono fun _ => Sat.dropN 8⟩
            · replace hb43 := cond_f hc55 hb43
              refine TC.skipk ?_
              refine TC.region ?_
              refine TO.s rfl rfl rfl (StepS.ari rfl rfl rfl) ?_
              refine TO.s rfl rfl rfl (StepS.move rfl) ?_
              cases hb43
              refine TO.nil fun a w e s => ?_
              exact ⟨e.sub (lk_of_allIn ⟨rfl, rfl, rfl, rfl, rfl, rfl, trivial⟩), s.mono fun _ => Sat.dropN 1⟩
          · replace hb43 := cond_f hc44 hb43
            cases hb43
            refine TC.exit rfl fun a w e s => ?_
            exact ⟨e.sub (lk_of_allIn ⟨rfl, rfl, trivial⟩), s⟩
        · exact fun a w e s => ⟨e.sub (lk_of_allIn ⟨rfl, rfl, rfl, rfl, rfl, rfl, trivial⟩), s⟩
        · rintro _ rfl a w ⟨he, hs⟩
          dsimp only [Ctl.on] at hm
          refine TC.use ?_ he hs
          refine TC.k ?_
          refine TC.k ?_
          refine TC.region_any (SN 41 4 nT41 v34 hs35 (r31) :: OwnS 45 4 v27 (r24.map cTissi) :: OwnS 3 1 v29 (r25.map cI) :: Bx b11 26 [v4, v7, v9] :: SN 41 4 nT41 v4 hs5 (r1.1) :: OwnS 3 1 v7 (r1.2.1.map cI) :: OwnS 3 1 v9 (r1.2.2.map cI) :: L) 9 9 kfollows_mixedOrders_true rfl ?_
          refine TA.takeW 1 rfl rfl rfl rfl (StepS.fld rfl kfieldB_26_1_1_true) (by kernel_rfl) (by kernel_rfl) (by kernel_rfl) rfl (.inr (fun _ s => s)) ?_
          refine TA.take 2 rfl rfl rfl rfl (StepS.ldB rfl (Ent.at 3 rfl) kscalB_24_true rfl) (by kernel_rfl) (by kernel_rfl) (by kernel_rfl) (by kernel_rfl) (by kernel_rfl) (fun _ s => s) ?_
          refine TA.takeW 4 rfl rfl rfl rfl (StepS.fld rfl kfieldB_26_2_2_true) (by kernel_rfl) (by kernel_rfl) (by kernel_rfl) rfl (.inr (fun _ s => s)) ?_
          refine TA.take 5 rfl rfl rfl rfl (StepS.ldB rfl (Ent.at 3 rfl) kscalB_24_true rfl) (by kernel_rfl) (by kernel_rfl) (by kernel_rfl) (by kernel_rfl) (by kernel_rfl) (fun _ s => s) ?_
          refine TA.takeW 8 rfl rfl rfl rfl (StepS.move rfl) (by kernel_rfl) (by kernel_rfl) (by kernel_rfl) rfl (.inr (fun _ s => s)) ?_
          refine TA.all1 (i := 0) (by kernel_rfl) ?_
          refine TB.of rfl ?_
          refine TO.lit0 (f := cI) ksliceB_24_3_1_true rfl fun vq56_0_1 => ?_
          refine TA.back (.inr (fun _ s => Sat.by [7, 7, 7, 7, 7, 7, 7] 7 1 (by kernel_rfl) s)) ?_
          refine TA.asL (L' := (OwnS 3 1 vq56_0_1 (([] : List Int).map cI) :: SN 41 4 nT41 v34 hs35 (r31) :: OwnS 45 4 v27 (r24.map cTissi) :: OwnS 3 1 v29 (r25.map cI) :: Bx b11 26 [v4, v7, v9] :: SN 41 4 nT41 v4 hs5 (r1.1) :: OwnS 3 1 v7 (r1.2.1.map cI) :: OwnS 3 1 v9 (r1.2.2.map cI) :: L)) (listed' := #[true, true, true, false, true, true, false, false, true]) (by kernel_rfl) (by kernel_rfl) ?_
          refine TA.all1 (i := 3) (by kernel_rfl) ?_
          refine TB.of rfl ?_
          obtain ⟨yq56_3_1, hkq56_3_2, hm⟩ := bind_some hm
          refine TO.app (k := 0) (f := cI) kelemB_24_3_1_8_true (by decide) rfl rfl rfl (OwnS.rd (Ent.at 6 rfl)) hkq56_3_2 (fun x c hc => by simp [Value.oneCell'] at hc ⊢; first | (obtain rfl := hc; rfl) | (rcases hc with rfl <;> rfl)) rfl rfl fun vq56_3_3 => ?_
          refine TA.back (.inr (fun _ s => Sat.by [7, 7, 7, 7, 7, 7, 7] 7 1 (by kernel_rfl) s)) ?_
          refine TA.asL (L' := (OwnS 3 1 vq56_3_3 (yq56_3_1.map cI) :: SN 41 4 nT41 v34 hs35 (r31) :: OwnS 45 4 v27 (r24.map cTissi) :: OwnS 3 1 v29 (r25.map cI) :: Bx b11 26 [v4, v7, v9] :: SN 41 4 nT41 v4 hs5 (r1.1) :: OwnS 3 1 v7 (r1.2.1.map cI) :: OwnS 3 1 v9 (r1.2.2.map cI) :: L)) (listed' := #[true, true, true, true, true, true, false, false, true]) (by kernel_rfl) (by kernel_rfl) ?_
          refine TA.all1 (i := 6) (by kernel_rfl) ?_
          refine TB.of rfl ?_
          obtain ⟨yq56_6_1, hkq56_6_2, hm⟩ := bind_some hm
          refine TO.app (k := 0) (f := cI) kelemB_24_3_1_8_true (by decide) rfl rfl rfl (OwnS.rd (Ent.at 7 rfl)) hkq56_6_2 (fun x c hc => by simp [Value.oneCell'] at hc ⊢; first | (obtain rfl := hc; rfl) | (rcases hc with rfl <;> rfl)) rfl rfl fun vq56_6_3 => ?_
          refine TA.back (.inr (fun _ s => Sat.by [7, 7, 7, 7, 7, 7, 7] 7 1 (by kernel_rfl) s)) ?_
          refine TA.asL (L' := (OwnS 3 1 vq56_6_3 (yq56_6_1.map cI) :: SN 41 4 nT41 v34 hs35 (r31) :: OwnS 45 4 v27 (r24.map cTissi) :: OwnS 3 1 v29 (r25.map cI) :: Bx b11 26 [v4, v7, v9] :: SN 41 4 nT41 v4 hs5 (r1.1) :: OwnS 3 1 v7 (r1.2.1.map cI) :: OwnS 3 1 v9 (r1.2.2.map cI) :: L)) (listed' := #[true, true, true, true, true, true, true, false, true]) (by kernel_rfl) (by kernel_rfl) ?_
          refine TA.all1 (i := 7) (by kernel_rfl) ?_
          refine TB.of rfl ?_
          refine TO.s rfl rfl rfl (StepS.lenm rfl (OwnS.rd (Ent.at 0 rfl)) ksliceB_24_3_1_true rfl) ?_
          refine TA.back (.inr (fun _ s => Sat.by [7, 7, 7, 7, 7, 7, 7] 7 1 (by kernel_rfl) s)) ?_
          refine TA.asL (L' := (OwnS 3 1 vq56_6_3 (yq56_6_1.map cI) :: SN 41 4 nT41 v34 hs35 (r31) :: OwnS 45 4 v27 (r24.map cTissi) :: OwnS 3 1 v29 (r25.map cI) :: Bx b11 26 [v4, v7, v9] :: SN 41 4 nT41 v4 hs5 (r1.1) :: OwnS 3 1 v7 (r1.2.1.map cI) :: OwnS 3 1 v9 (r1.2.2.map cI) :: L)) (listed' := #[true, true, true, true, true, true, true, true, true]) (by kernel_rfl) (by kernel_rfl) ?_
          refine TA.code (by kernel_rfl) ?_
          obtain ⟨o59, hw60, hm⟩ := bind_some hm
          refine TC.loop hw60 (fun x57 => fun a w => Mid 93 B [(7, v27), (82, vq56_6_3), (83, I (yq56_6_1.length : Int)), (84, I x57)] (OwnS 3 1 vq56_6_3 (yq56_6_1.map cI) :: SN 41 4 nT41 v34 hs35 (r31) :: OwnS 45 4 v27 (r24.map cTissi) :: OwnS 3 1 v29 (r25.map cI) :: Bx b11 26 [v4, v7, v9] :: SN 41 4 nT41 v4 hs5 (r1.1) :: OwnS 3 1 v7 (r1.2.1.map cI) :: OwnS 3 1 v9 (r1.2.2.map cI) :: L) a w) (fun _ => fun a w => Mid 93 B [] (OwnS 3 1 vq56_6_3 (yq56_6_1.map cI) :: SN 41 4 nT41 v34 hs35 (r31) :: OwnS 45 4 v27 (r24.map cTissi) :: OwnS 3 1 v29 (r25.map cI) :: Bx b11 26 [v4, v7, v9] :: SN 41 4 nT41 v4 hs5 (r1.1) :: OwnS 3 1 v7 (r1.2.1.map cI) :: OwnS 3 1 v9 (r1.2.2.map cI) :: L) a w) (fun r0 => FRet Tryd.prog Tryd.f4 (fun e w' => (e = .returned (.bool r0) ∧ St B (L) w'))) ?_ ?_ ?_ ?_
          · rintro x57 o59r hb61 a w ⟨he, hs⟩
            dsimp only [F4_L1] at hb61
            refine TC.use ?_ he hs
            refine TC.k ?_
            refine TC.region ?_
            refine TO.s rfl rfl rfl (StepS.cmp rfl rfl rfl) ?_
            refine TO.code ?_
            refine TC.k ?_
            refine TC.cond rfl (fun hc62 => ?_) (fun hc62 => ?_)
            · replace hb61 := cond_t hc62 hb61
              refine TC.skipk ?_
              refine TC.k ?_
              refine TC.block ?_
              refine TC.k ?_
              refine TC.region ?_
              obtain ⟨x63, hx64, hb61⟩ := bind_some hb61
              refine TO.s rfl rfl rfl (StepS.idx rfl rfl (OwnS.rd (Ent.at 0 rfl)) ksliceB_24_3_1_true (idx_spec hx64).1 (idxm_lt hx64)) ?_
              refine TO.s rfl rfl rfl (StepS.ld0 rfl (OwnS.rd (Ent.at 0 rfl)) kscalB_3_true rfl (idxm hx64) rfl) ?_
              refine TO.s rfl rfl rfl (StepS.assign rfl) ?_
              refine TO.code ?_
              refine TC.k ?_
              refine TC.region ?_
              refine TO.s rfl rfl rfl (StepS.move rfl) ?_
              refine TO.s rfl rfl rfl (StepS.move rfl) ?_
              refine TO.s rfl rfl rfl (StepS.lenm rfl (OwnS.rd (Ent.at 2 rfl)) ksliceB_34_45_4_true rfl) ?_
              refine TO.s rfl rfl rfl (StepS.cmp rfl rfl rfl) ?_
              refine TO.code ?_
              refine TC.cond rfl (fun hc65 => ?_) (fun hc65 => ?_)
              · replace hb61 := cond_t hc65 hb61
                refine TC.k ?_
                refine TC.region ?_
                refine TO.s rfl rfl rfl (StepS.assign rfl) ?_
                refine TO.code ?_
                cases hb61
                refine TC.ret fun a w e s => ?_
                refine FRet.mk1 (P := Tryd.prog) (fn := Tryd.f4) (t := 4) e rfl rfl ?_
                exact ⟨rfl, s.mono fun _ => Sat.dropN 8⟩
              · replace hb61 := cond_f hc65 hb61
                refine TC.skipk ?_
                refine TC.region ?_
                refine TO.s rfl rfl rfl (StepS.ari rfl rfl rfl) ?_
                refine TO.s rfl rfl rfl (StepS.move rfl) ?_
                cases hb61
                refine TO.nil fun a w e s => ?_
                exact ⟨e.sub (lk_of_allIn ⟨rfl, rfl, rfl, rfl, trivial⟩), s⟩
            · replace hb61 := cond_f hc62 hb61
              cases hb61
              refine TC.exit rfl fun a w e s => ?_
              exact ⟨e.sub (lk_of_allIn trivial), s⟩
          · exact fun a w e s => ⟨e.sub (lk_of_allIn ⟨rfl, rfl, rfl, rfl, trivial⟩), s⟩
          · rintro _ rfl a w ⟨he, hs⟩
            dsimp only [Ctl.on] at hm
            refine TC.use ?_ he hs
            refine TC.k ?_
            refine TC.region ?_
            refine TO.s rfl rfl rfl (StepS.assign rfl) ?_
            refine TO.code ?_
            cases hm
            refine TC.ret fun a w e s => ?_
            refine FRet.mk1 (P := Tryd.prog) (fn := Tryd.f4) (t := 4) e rfl rfl ?_
            exact ⟨rfl, s.mono fun _ => Sat.dropN 8⟩
          · rintro r rfl
            cases hm
            exact fun a w h => h
        · rintro r rfl
          cases hm
          exact fun a w h => h

set_option maxRecDepth 100000 in
theorem C17 {B : World} {L : List HP} {a0 : List Int} {a1 : Int} {h0 : Value} {r0 : Bool} (e0 : Ent L (Rd 1 h0 (a0.map cI))) (hm : F17 a0 a1 = some r0) {w : World} (st : St B L w) : Calls Tryd.prog 17 #[h0, I a1] w (fun e w' => (e = .returned (.bool r0) ∧ St B (L) w')) := by
  refine calls_of (N := 17) (L := L) (args := [h0, I a1]) Tryd.func17 rfl rfl rfl ?_ st
  dsimp only [F17] at hm
  refine TC.k ?_
  refine TC.region ?_
  refine TO.s rfl rfl rfl (StepS.assign rfl) ?_
  refine TO.code ?_
  refine TC.k ?_
  refine TC.k ?_
  refine TC.region ?_
  refine TO.s rfl rfl rfl (StepS.move rfl) ?_
  refine TO.s rfl rfl rfl (StepS.lenm rfl e0 ksliceB_24_3_1_true rfl) ?_
  refine TO.s rfl rfl rfl (StepS.move rfl) ?_
  refine TO.code ?_
  obtain ⟨o3, hw4, hm⟩ := bind_some hm
  refine TC.loop hw4 (fun x1 => fun a w => Mid 17 B [(1, I a1), (7, h0), (8, I (a0.length : Int)), (9, I x1)] (L) a w) (fun _ => fun a w => Mid 17 B [] (L) a w) (fun r0 => FRet Tryd.prog Tryd.f17 (fun e w' => (e = .returned (.bool r0) ∧ St B (L) w'))) ?_ ?_ ?_ ?_
  · rintro x1 o3r hb5 a w ⟨he, hs⟩
    dsimp only [F17_L0] at hb5
    refine TC.use ?_ he hs
    refine TC.k ?_
    refine TC.region ?_
    refine TO.s rfl rfl rfl (StepS.cmp rfl rfl rfl) ?_
    refine TO.code ?_
    refine TC.k ?_
    refine TC.cond rfl (fun hc6 => ?_) (fun hc6 => ?_)
    · replace hb5 := cond_t hc6 hb5
      refine TC.skipk ?_
      refine TC.k ?_
      refine TC.block ?_
      refine TC.k ?_
      refine TC.region ?_
      obtain ⟨x7, hx8, hb5⟩ := bind_some hb5
      refine TO.s rfl rfl rfl (StepS.idx rfl rfl e0 ksliceB_24_3_1_true (idx_spec hx8).1 (idxm_lt hx8)) ?_
      refine TO.s rfl rfl rfl (StepS.ld0 rfl e0 kscalB_3_true rfl (idxm hx8) rfl) ?_
      refine TO.s rfl rfl rfl (StepS.assign rfl) ?_
      refine TO.code ?_
      refine TC.k ?_
      refine TC.region ?_
      refine TO.s rfl rfl rfl (StepS.move rfl) ?_
      refine TO.s rfl rfl rfl (StepS.move rfl) ?_
      refine TO.s rfl rfl rfl (StepS.cmp rfl rfl rfl) ?_
      refine TO.code ?_
      refine TC.cond rfl (fun hc9 => ?_) (fun hc9 => ?_)
      · replace hb5 := cond_t hc9 hb5
        refine TC.k ?_
        refine TC.region ?_
        refine TO.s rfl rfl rfl (StepS.assign rfl) ?_
        refine TO.code ?_
        cases hb5
        refine TC.ret fun a w e s => ?_
        refine FRet.mk1 (P := Tryd.prog) (fn := Tryd.f17) (t := 4) e rfl rfl ?_
        exact ⟨rfl, s.mono fun _ => Sat.dropN 0⟩
      · replace hb5 := cond_f hc9 hb5
        refine TC.skipk ?_
        refine TC.region ?_
        refine TO.s rfl rfl rfl (StepS.ari rfl rfl rfl) ?_
        refine TO.s rfl rfl rfl (StepS.move rfl) ?_
        cases hb5
        refine TO.nil fun a w e s => ?_
        exact ⟨e.sub (lk_of_allIn ⟨rfl, rfl, rfl, rfl, trivial⟩), s⟩
    · replace hb5 := cond_f hc6 hb5
      cases hb5
      refine TC.exit rfl fun a w e s => ?_
      exact ⟨e.sub (lk_of_allIn trivial), s⟩
  · exact fun a w e s => ⟨e.sub (lk_of_allIn ⟨rfl, rfl, rfl, rfl, trivial⟩), s⟩
  · rintro _ rfl a w ⟨he, hs⟩
    dsimp only [Ctl.on] at hm
    refine TC.use ?_ he hs
    refine TC.k ?_
    refine TC.region ?_
    refine TO.s rfl rfl rfl (StepS.assign rfl) ?_
    refine TO.code ?_
    cases hm
    refine TC.ret fun a w e s => ?_
    refine FRet.mk1 (P := Tryd.prog) (fn := Tryd.f17) (t := 4) e rfl rfl ?_
    exact ⟨rfl, s.mono fun _ => Sat.dropN 0⟩
  · rintro r rfl
    cases hm
    exact fun a w h => h

set_option maxHeartbeats 4000000 in
set_option maxRecDepth 100000 in
theorem C5 {B : World} {L : List HP} {a0 : Int} {a1 : List (Int × Int × Int × Int × ByteArray × ByteArray × Int)} {a2 : Int} {a3 : Int × ByteArray × ByteArray × Int} {h1 : Value} {r0 : Bool} (e1 : Ent L (Rd 7 h1 (a1.map cTiiiissi))) (hm : F5 a0 a1 a2 a3 = some r0) {w : World} (st : St B L w) : Calls Tryd.prog 5 #[I a0, h1, I a2, .agg (cTissi a3).toArray] w (fun e w' => (e = .returned (.bool r0) ∧ St B (L) w')) := by
  refine calls_of (N := 171) (L := L) (args := [I a0, h1, I a2, .agg (cTissi a3).toArray]) Tryd.func5 rfl rfl rfl ?_ st
  dsimp only [F5] at hm
  refine TC.k ?_
  refine TC.region ?_
  refine TO.box (cs := [I a3.1, .string a3.2.1, .string a3.2.2.1, I a3.2.2.2]) rfl rfl rfl fun b1 => ?_
  refine TO.s rfl rfl rfl (StepS.assign rfl) ?_
  refine TO.code ?_
  refine TC.k ?_
  refine TC.k ?_
  refine TC.region ?_
  refine TO.s rfl rfl rfl (StepS.fld rfl kfieldB_45_0_0_true) ?_
  refine TO.s rfl rfl rfl (StepS.ldB rfl (Ent.at 0 rfl) kscalB_3_true rfl) ?_
  refine TO.s rfl rfl rfl (StepS.cmp rfl rfl rfl) ?_
  refine TO.s rfl rfl rfl (StepS.move rfl) ?_
  refine TO.mid1 4 28 (.bool ((a3.1 != 4) && (a3.1 != 5))) ?_ ?_
  · refine bcase ((a3.1 != 4)) (fun hb2 => ?_) (fun hb2 => ?_)
    · refine TO.sw rfl rfl rfl hb2 rfl rfl (StepS.fld rfl kfieldB_45_0_0_true) ?_
      refine TO.sw rfl rfl rfl hb2 rfl rfl (StepS.ldB rfl (Ent.at 0 rfl) kscalB_3_true rfl) ?_
      refine TO.sw rfl rfl rfl hb2 rfl rfl (StepS.cmp rfl rfl rfl) ?_
      refine TO.s rfl rfl rfl (StepS.pickT rfl hb2 rfl) ?_
      exact TO.up1 4 0 rfl rfl (by rw [hb2]; rfl) rfl
    · refine TO.skip rfl rfl rfl (skipF hb2) rfl rfl ?_
      refine TO.skip rfl rfl rfl (skipF hb2) rfl rfl ?_
      refine TO.skip rfl rfl rfl (skipF hb2) rfl rfl ?_
      refine TO.s rfl rfl rfl (StepS.pickF rfl hb2 rfl) ?_
      exact TO.up1 4 0 rfl rfl (by rw [hb2]; rfl) rfl
  refine TO.code ?_
  refine TC.cond rfl (fun hc3 => ?_) (fun hc3 => ?_)
  · replace hm := cond_t hc3 hm
    refine TC.k ?_
    refine TC.region ?_
    refine TO.s rfl rfl rfl (StepS.move rfl) ?_
    obtain ⟨⟨r4, r5⟩, hc6, hm⟩ := bind_some hm
    refine TO.callO kcallB_10_true rfl rfl rfl (fun _ st => C10 e1.tl hc6 st) ?_
    rintro _ _ ⟨v7, hs8, v10, v12, rfl, rfl⟩
    refine TO.s rfl rfl rfl (StepS.move rfl) ?_
    refine TO.s rfl rfl rfl (StepS.extract rfl rfl) ?_
    refine TO.s rfl rfl rfl (StepS.extract rfl rfl) ?_
    refine TO.alloc kinfo_26_bind_zero_some_agg_slice_none_0_0_slice_none_0_0_slice_none_0_0 rfl rfl fun b14 => ?_
    refine TO.pure (fun _ s => Rd.one (SN.top (Ent.at 1 rfl)) s) fun oc15 => ?_
    refine TO.pure (fun _ s => Rd.one (OwnS.rd (Ent.at 2 rfl)) s) fun oc16 => ?_
    refine TO.pure (fun _ s => Rd.one (OwnS.rd (Ent.at 3 rfl)) s) fun oc17 => ?_
    refine TO.stB (us := [v7, v10, v12]) 0 [v7, v10, v12] rfl rfl rfl ksizeB_26_3_true rfl rfl rfl (by intro u hu; simp only [List.mem_cons, List.not_mem_nil, or_false] at hu; rcases hu with rfl | rfl | rfl <;> first | exact oc15.1 | exact oc16.1 | exact oc17.1 | rfl) rfl ?_
    refine TO.s rfl rfl rfl (StepS.assign rfl) ?_
    refine TO.code ?_
    refine TC.k ?_
    refine TC.region ?_
    refine TO.s rfl rfl rfl (StepS.move rfl) ?_
    refine TO.s rfl rfl rfl (StepS.cmp rfl rfl rfl) ?_
    refine TO.s rfl rfl rfl (StepS.assign rfl) ?_
    refine TO.code ?_
    cases hm
    refine TC.ret fun a w e s => ?_
    refine FRet.mk1 (P := Tryd.prog) (fn := Tryd.f5) (t := 8) e rfl rfl ?_
    exact ⟨rfl, s.mono fun _ => Sat.dropN 5⟩
  · replace hm := cond_f hc3 hm
    refine TC.skipk ?_
    refine TC.k ?_
    obtain ⟨y21, hj22, hm⟩ := bind_some hm
    first | refine TC.cutM (fun a w => ∃ v19 : Value, Mid 171 B [(0, I a0), (1, h1), (2, I a2), (7, .pointer (some ⟨b1, 0, none⟩)), (11, v19)] (OwnS 47 7 v19 (y21.map cTiiiissi) :: Bx b1 45 [I a3.1, .string a3.2.1, .string a3.2.2.1, I a3.2.2.2] :: L) a w) ?_ ?_ | refine TC.cutX (fun a w => ∃ v19 : Value, Mid 171 B [(0, I a0), (1, h1), (2, I a2), (7, .pointer (some ⟨b1, 0, none⟩)), (11, v19)] (OwnS 47 7 v19 (y21.map cTiiiissi) :: Bx b1 45 [I a3.1, .string a3.2.1, .string a3.2.2.1, I a3.2.2.2] :: L) a w) ?_ ?_
    · obtain ⟨yq18_2_1, hkq18_2_2, hj22⟩ := bind_some hj22
      obtain ⟨yq18_7_1, hkq18_7_2, hj22⟩ := bind_some hj22
      refine TC.region_any (Bx b1 45 [I a3.1, .string a3.2.1, .string a3.2.2.1, I a3.2.2.2] :: L) 9 9 kfollows_mixedOrders_true rfl ?_
      refine TA.takeW 1 rfl rfl rfl rfl (StepS.move rfl) (by kernel_rfl) (by kernel_rfl) (by kernel_rfl) rfl (.inr (fun _ s => s)) ?_
      refine TA.takeW 3 rfl rfl rfl rfl (StepS.move rfl) (by kernel_rfl) (by kernel_rfl) (by kernel_rfl) rfl (.inr (fun _ s => s)) ?_
      refine TA.take 4 rfl rfl rfl rfl (StepS.ldBA rfl (Ent.at 0 rfl) kaggB_45_4_true rfl rfl) (by kernel_rfl) (by kernel_rfl) (by kernel_rfl) (by kernel_rfl) (by kernel_rfl) (fun _ s => s) ?_
      refine TA.takeW 5 rfl rfl rfl rfl (StepS.build (cs := [I 1, I a2, I 0, I a3.1, .string a3.2.1, .string a3.2.2.1, I a3.2.2.2]) rfl (by kernel_rfl)) (by kernel_rfl) (by kernel_rfl) (by kernel_rfl) rfl (.inr (fun _ s => s)) ?_
      refine TA.all2 (i := 0) (j := 6) (by kernel_rfl) ?_ ?_
      · refine TB.of rfl ?_
        refine TO.lit0 (f := cTiiiissi) ksliceB_22_47_7_true rfl fun vq18_0_1 => ?_
        refine TA.back (.inr (fun _ s => Sat.by [1] 1 1 (by kernel_rfl) s)) ?_
        refine TA.asL (L' := (OwnS 47 7 vq18_0_1 (([] : List (Int × Int × Int × Int × ByteArray × ByteArray × Int)).map cTiiiissi) :: Bx b1 45 [I a3.1, .string a3.2.1, .string a3.2.2.1, I a3.2.2.2] :: L)) (listed' := #[true, true, false, true, true, true, false, false, false]) (by kernel_rfl) (by kernel_rfl) ?_
        refine TA.all2 (i := 2) (j := 6) (by kernel_rfl) ?_ ?_
        · refine TB.of rfl ?_
          refine TO.app (k := 0) (f := cTiiiissi) kelemB_22_47_7_72_true (by decide) rfl rfl rfl e1.tl.tl hkq18_2_2 (fun x c hc => by simp [Value.oneCell'] at hc ⊢; first | (obtain rfl := hc; rfl) | (rcases hc with rfl | rfl | rfl | rfl | rfl | rfl | rfl <;> rfl)) rfl rfl fun vq18_2_3 => ?_
          refine TA.back (.inr (fun _ s => Sat.by [1] 1 1 (by kernel_rfl) s)) ?_
          refine TA.asL (L' := (OwnS 47 7 vq18_2_3 (yq18_2_1.map cTiiiissi) :: Bx b1 45 [I a3.1, .string a3.2.1, .string a3.2.2.1, I a3.2.2.2] :: L)) (listed' := #[true, true, true, true, true, true, false, false, false]) (by kernel_rfl) (by kernel_rfl) ?_
          refine TA.all1 (i := 6) (by kernel_rfl) ?_
          refine TB.of rfl ?_
          refine TO.litS (f := cTiiiissi) ([(1, a2, 0, (a3.1, a3.2.1, a3.2.2.1, a3.2.2.2))] : List (Int × Int × Int × Int × ByteArray × ByteArray × Int)) kelemB_22_47_7_72_true kinfo_47_bind_zero_some_agg_I_0_I_0_I_0_I_0_string_ByteArray_empty_string_ByteArray_empty_I_0 rfl rfl (fun _ => rfl) rfl rfl (by kernel_rfl) rfl fun vq18_6_1 => ?_
          refine TA.back (.inr (fun _ s => Sat.by [2] 1 2 (by kernel_rfl) s)) ?_
          refine TA.asL (L' := (OwnS 47 7 vq18_6_1 (([(1, a2, 0, (a3.1, a3.2.1, a3.2.2.1, a3.2.2.2))] : List (Int × Int × Int × Int × ByteArray × ByteArray × Int)).map cTiiiissi) :: OwnS 47 7 vq18_2_3 (yq18_2_1.map cTiiiissi) :: Bx b1 45 [I a3.1, .string a3.2.1, .string a3.2.2.1, I a3.2.2.2] :: L)) (listed' := #[true, true, true, true, true, true, true, false, false]) (by kernel_rfl) (by kernel_rfl) ?_
          refine TA.all1 (i := 7) (by kernel_rfl) ?_
          refine TB.of rfl ?_
          refine TO.app (k := 1) (f := cTiiiissi) kelemB_22_47_7_72_true (by decide) rfl rfl rfl (OwnS.rd (Ent.at 0 rfl)) hkq18_7_2 (fun x c hc => by simp [Value.oneCell'] at hc ⊢; first | (obtain rfl := hc; rfl) | (rcases hc with rfl | rfl | rfl | rfl | rfl | rfl | rfl <;> rfl)) rfl rfl fun vq18_7_3 => ?_
          refine TA.back (.inr (fun _ s => Sat.by [2] 1 2 (by kernel_rfl) s)) ?_
          refine TA.asL (L' := (OwnS 47 7 vq18_6_1 (([(1, a2, 0, (a3.1, a3.2.1, a3.2.2.1, a3.2.2.2))] : List (Int × Int × Int × Int × ByteArray × ByteArray × Int)).map cTiiiissi) :: OwnS 47 7 vq18_7_3 (yq18_7_1.map cTiiiissi) :: Bx b1 45 [I a3.1, .string a3.2.1, .string a3.2.2.1, I a3.2.2.2] :: L)) (listed' := #[true, true, true, true, true, true, true, true, false]) (by kernel_rfl) (by kernel_rfl) ?_
          refine TA.takeW 8 rfl rfl rfl rfl (StepS.assign rfl) (by kernel_rfl) (by kernel_rfl) (by kernel_rfl) rfl (.inr (fun _ s => Sat.by [2] 1 2 (by kernel_rfl) s)) ?_
          cases hj22
          refine TA.nil (by kernel_rfl) fun a w e s => ?_
          exact ⟨vq18_7_3, e.sub (lk_of_allIn ⟨rfl, rfl, rfl, rfl, rfl, trivial⟩), s.mono fun _ => Sat.dropN 1⟩
        · refine TB.of rfl ?_
          refine TO.litS (f := cTiiiissi) ([(1, a2, 0, (a3.1, a3.2.1, a3.2.2.1, a3.2.2.2))] : List (Int × Int × Int × Int × ByteArray × ByteArray × Int)) kelemB_22_47_7_72_true kinfo_47_bind_zero_some_agg_I_0_I_0_I_0_I_0_string_ByteArray_empty_string_ByteArray_empty_I_0 rfl rfl (fun _ => rfl) rfl rfl (by kernel_rfl) rfl fun vq18_6_1 => ?_
          refine TA.back (.inr (fun _ s => Sat.by [2] 1 2 (by kernel_rfl) s)) ?_
          refine TA.asL (L' := (OwnS 47 7 vq18_6_1 (([(1, a2, 0, (a3.1, a3.2.1, a3.2.2.1, a3.2.2.2))] : List (Int × Int × Int × Int × ByteArray × ByteArray × Int)).map cTiiiissi) :: OwnS 47 7 vq18_0_1 (([] : List (Int × Int × Int × Int × ByteArray × ByteArray × Int)).map cTiiiissi) :: Bx b1 45 [I a3.1, .string a3.2.1, .string a3.2.2.1, I a3.2.2.2] :: L)) (listed' := #[true, true, false, true, true, true, true, false, false]) (by kernel_rfl) (by kernel_rfl) ?_
          refine TA.all1 (i := 2) (by kernel_rfl) ?_
          refine TB.of rfl ?_
          refine TO.app (k := 1) (f := cTiiiissi) kelemB_22_47_7_72_true (by decide) rfl rfl rfl e1.tl.tl.tl hkq18_2_2 (fun x c hc => by simp [Value.oneCell'] at hc ⊢; first | (obtain rfl := hc; rfl) | (rcases hc with rfl | rfl | rfl | rfl | rfl | rfl | rfl <;> rfl)) rfl rfl fun vq18_2_3 => ?_
          refine TA.back (.inr (fun _ s => Sat.by [2] 1 2 (by kernel_rfl) s)) ?_
          refine TA.asL (L' := (OwnS 47 7 vq18_6_1 (([(1, a2, 0, (a3.1, a3.2.1, a3.2.2.1, a3.2.2.2))] : List (Int × Int × Int × Int × ByteArray × ByteArray × Int)).map cTiiiissi) :: OwnS 47 7 vq18_2_3 (yq18_2_1.map cTiiiissi) :: Bx b1 45 [I a3.1, .string a3.2.1, .string a3.2.2.1, I a3.2.2.2] :: L)) (listed' := #[true, true, true, true, true, true, true, false, false]) (by kernel_rfl) (by kernel_rfl) ?_
          refine TA.all1 (i := 7) (by kernel_rfl) ?_
          refine TB.of rfl ?_
          refine TO.app (k := 1) (f := cTiiiissi) kelemB_22_47_7_72_true (by decide) rfl rfl rfl (OwnS.rd (Ent.at 0 rfl)) hkq18_7_2 (fun x c hc => by simp [Value.oneCell'] at hc ⊢; first | (obtain rfl := hc; rfl) | (rcases hc with rfl | rfl | rfl | rfl | rfl | rfl | rfl <;> rfl)) rfl rfl fun vq18_7_3 => ?_
          refine TA.back (.inr (fun _ s => Sat.by [2] 1 2 (by kernel_rfl) s)) ?_
          refine TA.asL (L' := (OwnS 47 7 vq18_6_1 (([(1, a2, 0, (a3.1, a3.2.1, a3.2.2.1, a3.2.2.2))] : List (Int × Int × Int × Int × ByteArray × ByteArray × Int)).map cTiiiissi) :: OwnS 47 7 vq18_7_3 (yq18_7_1.map cTiiiissi) :: Bx b1 45 [I a3.1, .string a3.2.1, .string a3.2.2.1, I a3.2.2.2] :: L)) (listed' := #[true, true, true, true, true, true, true, true, false]) (by kernel_rfl) (by kernel_rfl) ?_
          refine TA.takeW 8 rfl rfl rfl rfl (StepS.assign rfl) (by kernel_rfl) (by kernel_rfl) (by kernel_rfl) rfl (.inr (fun _ s => Sat.by [2] 1 2 (by kernel_rfl) s)) ?_
          cases hj22
          refine TA.nil (by kernel_rfl) fun a w e s => ?_
          exact ⟨vq18_7_3, e.sub (lk_of_allIn ⟨rfl, rfl, rfl, rfl, rfl, trivial⟩), s.mono fun _ => Sat.dropN 1⟩
      · refine TB.of rfl ?_
        refine TO.litS (f := cTiiiissi) ([(1, a2, 0, (a3.1, a3.2.1, a3.2.2.1, a3.2.2.2))] : List (Int × Int × Int × Int × ByteArray × ByteArray × Int)) kelemB_22_47_7_72_true kinfo_47_bind_zero_some_agg_I_0_I_0_I_0_I_0_string_ByteArray_empty_string_ByteArray_empty_I_0 rfl rfl (fun _ => rfl) rfl rfl (by kernel_rfl) rfl fun vq18_6_1 => ?_
        refine TA.back (.inr (fun _ s => Sat.by [1] 1 1 (by kernel_rfl) s)) ?_
        refine TA.asL (L' := (OwnS 47 7 vq18_6_1 (([(1, a2, 0, (a3.1, a3.2.1, a3.2.2.1, a3.2.2.2))] : List (Int × Int × Int × Int × ByteArray × ByteArray × Int)).map cTiiiissi) :: Bx b1 45 [I a3.1, .string a3.2.1, .string a3.2.2.1, I a3.2.2.2] :: L)) (listed' := #[false, true, false, true, true, true, true, false, false]) (by kernel_rfl) (by kernel_rfl) ?_
        refine TA.all1 (i := 0) (by kernel_rfl) ?_
        refine TB.of rfl ?_
        refine TO.lit0 (f := cTiiiissi) ksliceB_22_47_7_true rfl fun vq18_0_1 => ?_
        refine TA.back (.inr (fun _ s => Sat.by [2] 1 2 (by kernel_rfl) s)) ?_
        refine TA.asL (L' := (OwnS 47 7 vq18_0_1 (([] : List (Int × Int × Int × Int × ByteArray × ByteArray × Int)).map cTiiiissi) :: OwnS 47 7 vq18_6_1 (([(1, a2, 0, (a3.1, a3.2.1, a3.2.2.1, a3.2.2.2))] : List (Int × Int × Int × Int × ByteArray × ByteArray × Int)).map cTiiiissi) :: Bx b1 45 [I a3.1, .string a3.2.1, .string a3.2.2.1, I a3.2.2.2] :: L)) (listed' := #[true, true, false, true, true, true, true, false, false]) (by kernel_rfl) (by kernel_rfl) ?_
        refine TA.all1 (i := 2) (by kernel_rfl) ?_
        refine TB.of rfl ?_
        refine TO.app (k := 0) (f := cTiiiissi) kelemB_22_47_7_72_true (by decide) rfl rfl rfl e1.tl.tl.tl hkq18_2_2 (fun x c hc => by simp [Value.oneCell'] at hc ⊢; first | (obtain rfl := hc; rfl) | (rcases hc with rfl | rfl | rfl | rfl | rfl | rfl | rfl <;> rfl)) rfl rfl fun vq18_2_3 => ?_
        refine TA.back (.inr (fun _ s => Sat.by [2] 1 2 (by kernel_rfl) s)) ?_
        refine TA.asL (L' := (OwnS 47 7 vq18_2_3 (yq18_2_1.map cTiiiissi) :: OwnS 47 7 vq18_6_1 (([(1, a2, 0, (a3.1, a3.2.1, a3.2.2.1, a3.2.2.2))] : List (Int × Int × Int × Int × ByteArray × ByteArray × Int)).map cTiiiissi) :: Bx b1 45 [I a3.1, .string a3.2.1, .string a3.2.2.1, I a3.2.2.2] :: L)) (listed' := #[true, true, true, true, true, true, true, false, false]) (by kernel_rfl) (by kernel_rfl) ?_
        refine TA.all1 (i := 7) (by kernel_rfl) ?_
        refine TB.of rfl ?_
        refine TO.app (k := 0) (f := cTiiiissi) kelemB_22_47_7_72_true (by decide) rfl rfl rfl (OwnS.rd (Ent.at 1 rfl)) hkq18_7_2 (fun x c hc => by simp [Value.oneCell'] at hc ⊢; first | (obtain rfl := hc; rfl) | (rcases hc with rfl | rfl | rfl | rfl | rfl | rfl | rfl <;> rfl)) rfl rfl fun vq18_7_3 => ?_
        refine TA.back (.inr (fun _ s => Sat.by [2] 1 2 (by kernel_rfl) s)) ?_
        refine TA.asL (L' := (OwnS 47 7 vq18_7_3 (yq18_7_1.map cTiiiissi) :: OwnS 47 7 vq18_6_1 (([(1, a2, 0, (a3.1, a3.2.1, a3.2.2.1, a3.2.2.2))] : List (Int × Int × Int × Int × ByteArray × ByteArray × Int)).map cTiiiissi) :: Bx b1 45 [I a3.1, .string a3.2.1, .string a3.2.2.1, I a3.2.2.2] :: L)) (listed' := #[true, true, true, true, true, true, true, true, false]) (by kernel_rfl) (by kernel_rfl) ?_
        refine TA.takeW 8 rfl rfl rfl rfl (StepS.assign rfl) (by kernel_rfl) (by kernel_rfl) (by kernel_rfl) rfl (.inr (fun _ s => Sat.by [2] 1 2 (by kernel_rfl) s)) ?_
        cases hj22
        refine TA.nil (by kernel_rfl) fun a w e s => ?_
        exact ⟨vq18_7_3, e.sub (lk_of_allIn ⟨rfl, rfl, rfl, rfl, rfl, trivial⟩), s.mono fun _ s => (by exact Sat.by [2, 1] 2 1 (by kernel_rfl) s)⟩
    · intro a w ⟨v19, he, hs⟩
      refine TC.use ?_ he hs
      refine TC.k ?_
      refine TC.region ?_
      refine TO.s rfl rfl rfl (StepS.move rfl) ?_
      refine TO.s rfl rfl rfl (StepS.move rfl) ?_
      obtain ⟨⟨r23, r24⟩, hc25, hm⟩ := bind_some hm
      refine TO.callO kcallB_10_true rfl rfl rfl (fun _ st => C10 e1.tl.tl hc25 st) ?_
      rintro _ _ ⟨v26, hs27, v29, v31, rfl, rfl⟩
      refine TO.s rfl rfl rfl (StepS.move rfl) ?_
      refine TO.s rfl rfl rfl (StepS.extract rfl rfl) ?_
      refine TO.s rfl rfl rfl (StepS.extract rfl rfl) ?_
      refine TO.alloc kinfo_26_bind_zero_some_agg_slice_none_0_0_slice_none_0_0_slice_none_0_0 rfl rfl fun b33 => ?_
      refine TO.pure (fun _ s => Rd.one (SN.top (Ent.at 1 rfl)) s) fun oc34 => ?_
      refine TO.pure (fun _ s => Rd.one (OwnS.rd (Ent.at 2 rfl)) s) fun oc35 => ?_
      refine TO.pure (fun _ s => Rd.one (OwnS.rd (Ent.at 3 rfl)) s) fun oc36 => ?_
      refine TO.stB (us := [v26, v29, v31]) 0 [v26, v29, v31] rfl rfl rfl ksizeB_26_3_true rfl rfl rfl (by intro u hu; simp only [List.mem_cons, List.not_mem_nil, or_false] at hu; rcases hu with rfl | rfl | rfl <;> first | exact oc34.1 | exact oc35.1 | exact oc36.1 | rfl) rfl ?_
      refine TO.s rfl rfl rfl (StepS.assign rfl) ?_
      refine TO.code ?_
      refine TC.k ?_
      refine TC.region ?_
      refine TO.s rfl rfl rfl (StepS.move rfl) ?_
      refine TO.s rfl rfl rfl (StepS.move rfl) ?_
      obtain ⟨⟨r37, r38⟩, hc39, hm⟩ := bind_some hm
      refine TO.callO kcallB_10_true rfl rfl rfl (fun _ st => C10 (OwnS.rd (Ent.at 4 rfl)) hc39 st) ?_
      rintro _ _ ⟨v40, hs41, v43, v45, rfl, rfl⟩
      refine TO.s rfl rfl rfl (StepS.move rfl) ?_
      refine TO.s rfl rfl rfl (StepS.extract rfl rfl) ?_
      refine TO.s rfl rfl rfl (StepS.extract rfl rfl) ?_
      refine TO.alloc kinfo_26_bind_zero_some_agg_slice_none_0_0_slice_none_0_0_slice_none_0_0 rfl rfl fun b47 => ?_
      refine TO.pure (fun _ s => Rd.one (SN.top (Ent.at 1 rfl)) s) fun oc48 => ?_
      refine TO.pure (fun _ s => Rd.one (OwnS.rd (Ent.at 2 rfl)) s) fun oc49 => ?_
      refine TO.pure (fun _ s => Rd.one (OwnS.rd (Ent.at 3 rfl)) s) fun oc50 => ?_
      refine TO.stB (us := [v40, v43, v45]) 0 [v40, v43, v45] rfl rfl rfl ksizeB_26_3_true rfl rfl rfl (by intro u hu; simp only [List.mem_cons, List.not_mem_nil, or_false] at hu; rcases hu with rfl | rfl | rfl <;> first | exact oc48.1 | exact oc49.1 | exact oc50.1 | rfl) rfl ?_
      refine TO.s rfl rfl rfl (StepS.assign rfl) ?_
      refine TO.code ?_
      refine TC.k ?_
      refine TC.k ?_
      refine TC.region ?_
      refine TO.s rfl rfl rfl (StepS.move rfl) ?_
      refine TO.s rfl rfl rfl (StepS.move rfl) ?_
      refine TO.s rfl rfl rfl (StepS.lenm rfl (OwnS.rd (Ent.at 8 rfl)) ksliceB_22_47_7_true rfl) ?_
      obtain ⟨r51, hc52, hm⟩ := bind_some hm
      refine TO.q rfl rfl rfl (StepQ.call kcallB_11_true rfl rfl (fun _ st => C11  hc52 st)) ?_
      refine TO.s rfl rfl rfl (StepS.cmp rfl rfl rfl) ?_
      refine TO.code ?_
      refine TC.cond rfl (fun hc53 => ?_) (fun hc53 => ?_)
      · replace hm := cond_t hc53 hm
        refine TC.k ?_
        refine TC.region ?_
        refine TO.s rfl rfl rfl (StepS.move rfl) ?_
        refine TO.s rfl rfl rfl (StepS.cmp rfl rfl rfl) ?_
        refine TO.s rfl rfl rfl (StepS.assign rfl) ?_
        refine TO.code ?_
        cases hm
        refine TC.ret fun a w e s => ?_
        refine FRet.mk1 (P := Tryd.prog) (fn := Tryd.f5) (t := 8) e rfl rfl ?_
        exact ⟨rfl, s.mono fun _ => Sat.dropN 10⟩
      · replace hm := cond_f hc53 hm
        refine TC.skipk ?_
        refine TC.k ?_
        refine TC.k ?_
        refine TC.region ?_
        refine TO.s rfl rfl rfl (StepS.move rfl) ?_
        refine TO.s rfl rfl rfl (StepS.cmp rfl rfl rfl) ?_
        refine TO.s rfl rfl rfl (StepS.move rfl) ?_
        refine TO.mid1 3 68 (.bool ((r24 != 0) || (r38 != 0))) ?_ ?_
        · refine bcase ((r24 != 0)) (fun hb54 => ?_) (fun hb54 => ?_)
          · refine TO.skip rfl rfl rfl (skipT hb54) rfl rfl ?_
            refine TO.skip rfl rfl rfl (skipT hb54) rfl rfl ?_
            refine TO.s rfl rfl rfl (StepS.pickT rfl hb54 rfl) ?_
            exact TO.up1 3 0 rfl rfl (by rw [hb54]; rfl) rfl
          · refine TO.sw rfl rfl rfl hb54 rfl rfl (StepS.move rfl) ?_
            refine TO.sw rfl rfl rfl hb54 rfl rfl (StepS.cmp rfl rfl rfl) ?_
            refine TO.s rfl rfl rfl (StepS.pickF rfl hb54 rfl) ?_
            exact TO.up1 3 0 rfl rfl (by rw [hb54]; rfl) rfl
        refine TO.s rfl rfl rfl (StepS.move rfl) ?_
        obtain ⟨b56, hj57, hm⟩ := bind_some hm
        refine TO.mid1 7 76 (.bool b56) ?_ ?_
        · refine bcase (((r24 != 0) || (r38 != 0))) (fun hb55 => ?_) (fun hb55 => ?_)
          · replace hj57 := cond_t hb55 hj57
            cases hj57
            refine TO.skip rfl rfl rfl (skipT hb55) rfl rfl ?_
            refine TO.skip rfl rfl rfl (skipT hb55) rfl rfl ?_
            refine TO.skip rfl rfl rfl (skipT hb55) rfl rfl ?_
            refine TO.skip rfl rfl rfl (skipT hb55) rfl rfl ?_
            refine TO.skip rfl rfl rfl (skipT hb55) rfl rfl ?_
            refine TO.skip rfl rfl rfl (skipT hb55) rfl rfl ?_
            refine TO.s rfl rfl rfl (StepS.pickT rfl hb55 rfl) ?_
            exact TO.up1 7 0 rfl rfl rfl rfl
          · replace hj57 := cond_f hb55 hj57
            refine TO.sw rfl rfl rfl hb55 rfl rfl (StepS.ldBA rfl (Ent.at 4 rfl) kaggB_26_3_true rfl rfl) ?_
            refine TO.sw rfl rfl rfl hb55 rfl rfl (StepS.move rfl) ?_
            refine TO.sw rfl rfl rfl hb55 rfl rfl (StepS.move rfl) ?_
            refine TO.sw rfl rfl rfl hb55 rfl rfl (StepS.lenm rfl e1.tl.tl.tl.tl.tl.tl.tl.tl.tl.tl ksliceB_22_47_7_true rfl) ?_
            obtain ⟨r58, hc59, hj57⟩ := bind_some hj57
            refine TO.qw rfl rfl rfl hb55 rfl rfl (StepQ.call kcallB_12_true rfl rfl (fun _ st => C12 (Ent.at 5 rfl) (OwnS.rd (Ent.at 6 rfl)) (OwnS.rd (Ent.at 7 rfl)) hc59 st)) ?_
            refine TO.sw rfl rfl rfl hb55 rfl rfl (StepS.not rfl) ?_
            cases hj57
            refine TO.s rfl rfl rfl (StepS.pickF rfl hb55 rfl) ?_
            exact TO.up1 7 0 rfl rfl rfl rfl
        refine TO.s rfl rfl rfl (StepS.move rfl) ?_
        obtain ⟨b61, hj62, hm⟩ := bind_some hm
        refine TO.mid1 7 84 (.bool b61) ?_ ?_
        · refine bcase (b56) (fun hb60 => ?_) (fun hb60 => ?_)
          · replace hj62 := cond_t hb60 hj62
            cases hj62
            refine TO.skip rfl rfl rfl (skipT hb60) rfl rfl ?_
            refine TO.skip rfl rfl rfl (skipT hb60) rfl rfl ?_
            refine TO.skip rfl rfl rfl (skipT hb60) rfl rfl ?_
            refine TO.skip rfl rfl rfl (skipT hb60) rfl rfl ?_
            refine TO.skip rfl rfl rfl (skipT hb60) rfl rfl ?_
            refine TO.skip rfl rfl rfl (skipT hb60) rfl rfl ?_
            refine TO.s rfl rfl rfl (StepS.pickT rfl hb60 rfl) ?_
            exact TO.up1 7 0 rfl rfl rfl rfl
          · replace hj62 := cond_f hb60 hj62
            refine TO.sw rfl rfl rfl hb60 rfl rfl (StepS.ldBA rfl (Ent.at 0 rfl) kaggB_26_3_true rfl rfl) ?_
            refine TO.sw rfl rfl rfl hb60 rfl rfl (StepS.move rfl) ?_
            refine TO.sw rfl rfl rfl hb60 rfl rfl (StepS.move rfl) ?_
            refine TO.sw rfl rfl rfl hb60 rfl rfl (StepS.lenm rfl (OwnS.rd (Ent.at 8 rfl)) ksliceB_22_47_7_true rfl) ?_
            obtain ⟨r63, hc64, hj62⟩ := bind_some hj62
            refine TO.qw rfl rfl rfl hb60 rfl rfl (StepQ.call kcallB_12_true rfl rfl (fun _ st => C12 (Ent.at 1 rfl) (OwnS.rd (Ent.at 2 rfl)) (OwnS.rd (Ent.at 3 rfl)) hc64 st)) ?_
            refine TO.sw rfl rfl rfl hb60 rfl rfl (StepS.not rfl) ?_
            cases hj62
            refine TO.s rfl rfl rfl (StepS.pickF rfl hb60 rfl) ?_
            exact TO.up1 7 0 rfl rfl rfl rfl
        refine TO.code ?_
        refine TC.cond rfl (fun hc65 => ?_) (fun hc65 => ?_)
        · replace hm := cond_t hc65 hm
          refine TC.k ?_
          refine TC.region ?_
          refine TO.s rfl rfl rfl (StepS.assign rfl) ?_
          refine TO.code ?_
          cases hm
          refine TC.ret fun a w e s => ?_
          refine FRet.mk1 (P := Tryd.prog) (fn := Tryd.f5) (t := 8) e rfl rfl ?_
          exact ⟨rfl, s.mono fun _ => Sat.dropN 10⟩
        · replace hm := cond_f hc65 hm
          refine TC.skipk ?_
          refine TC.k ?_
          refine TC.k ?_
          refine TC.region ?_
          refine TO.s rfl rfl rfl (StepS.move rfl) ?_
          refine TO.s rfl rfl rfl (StepS.cmp rfl rfl rfl) ?_
          refine TO.s rfl rfl rfl (StepS.move rfl) ?_
          refine TO.mid1 3 90 (.bool ((decide (a2 < 0)) || (decide (a2 ≥ 6)))) ?_ ?_
          · refine bcase ((decide (a2 < 0))) (fun hb66 => ?_) (fun hb66 => ?_)
            · refine TO.skip rfl rfl rfl (skipT hb66) rfl rfl ?_
              refine TO.skip rfl rfl rfl (skipT hb66) rfl rfl ?_
              refine TO.s rfl rfl rfl (StepS.pickT rfl hb66 rfl) ?_
              exact TO.up1 3 0 rfl rfl (by rw [hb66]; rfl) rfl
            · refine TO.sw rfl rfl rfl hb66 rfl rfl (StepS.move rfl) ?_
              refine TO.sw rfl rfl rfl hb66 rfl rfl (StepS.cmp rfl rfl rfl) ?_
              refine TO.s rfl rfl rfl (StepS.pickF rfl hb66 rfl) ?_
              exact TO.up1 3 0 rfl rfl (by rw [hb66]; rfl) rfl
          refine TO.code ?_
          refine TC.cond rfl (fun hc67 => ?_) (fun hc67 => ?_)
          · replace hm := cond_t hc67 hm
            refine TC.k ?_
            refine TC.region ?_
            refine TO.s rfl rfl rfl (StepS.fld rfl kfieldB_26_0_0_true) ?_
            refine TO.s rfl rfl rfl (StepS.ldB rfl (Ent.at 0 rfl) kscalB_23_true rfl) ?_
            refine TO.s rfl rfl rfl (StepS.move rfl) ?_
            refine TO.s rfl rfl rfl (StepS.lenm rfl e1.tl.tl.tl.tl.tl.tl.tl.tl.tl.tl ksliceB_22_47_7_true rfl) ?_
            obtain ⟨x68, hx69, hm⟩ := bind_some hm
            refine TO.s rfl rfl rfl (StepS.idxN rfl rfl (Ent.at 1 rfl) ksliceB_23_41_4_true hx69) ?_
            refine TO.s rfl rfl rfl (StepS.ptrf rfl kfieldB_41_0_0_true) ?_
            refine TO.s rfl rfl rfl (StepS.ldN (j := 0) rfl (Ent.at 1 rfl) kscalB_27_true hx69 rfl rfl) ?_
            refine TO.s rfl rfl rfl (StepS.cmp rfl rfl rfl) ?_
            refine TO.s rfl rfl rfl (StepS.assign rfl) ?_
            refine TO.code ?_
            cases hm
            refine TC.ret fun a w e s => ?_
            refine FRet.mk1 (P := Tryd.prog) (fn := Tryd.f5) (t := 8) e rfl rfl ?_
            exact ⟨rfl, s.mono fun _ => Sat.dropN 10⟩
          · replace hm := cond_f hc67 hm
            refine TC.skipk ?_
            refine TC.k ?_
            refine TC.region ?_
            refine TO.s rfl rfl rfl (StepS.move rfl) ?_
            obtain ⟨⟨r70, r71⟩, hc72, hm⟩ := bind_some hm
            refine TO.callO kcallB_14_true rfl rfl rfl (fun _ st => C14 e1.tl.tl.tl.tl.tl.tl.tl.tl.tl.tl hc72 st) ?_
            rintro _ _ ⟨v73, v75, rfl, rfl⟩
            refine TO.s rfl rfl rfl (StepS.move rfl) ?_
            refine TO.s rfl rfl rfl (StepS.extract rfl rfl) ?_
            refine TO.s rfl rfl rfl (StepS.extract rfl rfl) ?_
            refine TO.s rfl rfl rfl (StepS.assign rfl) ?_
            refine TO.s rfl rfl rfl (StepS.assign rfl) ?_
            refine TO.code ?_
            refine TC.k ?_
            refine TC.region ?_
            refine TO.s rfl rfl rfl (StepS.fld rfl kfieldB_26_2_2_true) ?_
            refine TO.s rfl rfl rfl (StepS.ldB rfl (Ent.at 2 rfl) kscalB_24_true rfl) ?_
            refine TO.s rfl rfl rfl (StepS.move rfl) ?_
            obtain ⟨x77, hx78, hm⟩ := bind_some hm
            refine TO.s rfl rfl rfl (StepS.idx rfl rfl (OwnS.rd (Ent.at 5 rfl)) ksliceB_24_3_1_true (idx_spec hx78).1 (idxm_lt hx78)) ?_
            refine TO.s rfl rfl rfl (StepS.ld0 rfl (OwnS.rd (Ent.at 5 rfl)) kscalB_3_true rfl (idxm hx78) rfl) ?_
            refine TO.s rfl rfl rfl (StepS.assign rfl) ?_
            refine TO.code ?_
            refine TC.k ?_
            refine TC.k ?_
            refine TC.region ?_
            refine TO.s rfl rfl rfl (StepS.move rfl) ?_
            refine TO.s rfl rfl rfl (StepS.fld rfl kfieldB_26_2_2_true) ?_
            refine TO.s rfl rfl rfl (StepS.ldB rfl (Ent.at 6 rfl) kscalB_24_true rfl) ?_
            refine TO.s rfl rfl rfl (StepS.move rfl) ?_
            obtain ⟨x79, hx80, hm⟩ := bind_some hm
            refine TO.s rfl rfl rfl (StepS.idx rfl rfl (OwnS.rd (Ent.at 9 rfl)) ksliceB_24_3_1_true (idx_spec hx80).1 (idxm_lt hx80)) ?_
            refine TO.s rfl rfl rfl (StepS.ld0 rfl (OwnS.rd (Ent.at 9 rfl)) kscalB_3_true rfl (idxm hx80) rfl) ?_
            refine TO.s rfl rfl rfl (StepS.cmp rfl rfl rfl) ?_
            refine TO.s rfl rfl rfl (StepS.move rfl) ?_
            refine TO.mid1 5 121 (.bool ((decide (x77 < x79)) || (decide (x77 > (r70.length : Int))))) ?_ ?_
            · refine bcase ((decide (x77 < x79))) (fun hb81 => ?_) (fun hb81 => ?_)
              · refine TO.skip rfl rfl rfl (skipT hb81) rfl rfl ?_
                refine TO.skip rfl rfl rfl (skipT hb81) rfl rfl ?_
                refine TO.skip rfl rfl rfl (skipT hb81) rfl rfl ?_
                refine TO.skip rfl rfl rfl (skipT hb81) rfl rfl ?_
                refine TO.s rfl rfl rfl (StepS.pickT rfl hb81 rfl) ?_
                exact TO.up1 5 0 rfl rfl (by rw [hb81]; rfl) rfl
              · refine TO.sw rfl rfl rfl hb81 rfl rfl (StepS.move rfl) ?_
                refine TO.sw rfl rfl rfl hb81 rfl rfl (StepS.move rfl) ?_
                refine TO.sw rfl rfl rfl hb81 rfl rfl (StepS.lenm rfl (OwnS.rd (Ent.at 0 rfl)) ksliceB_34_45_4_true rfl) ?_
                refine TO.sw rfl rfl rfl hb81 rfl rfl (StepS.cmp rfl rfl rfl) ?_
                refine TO.s rfl rfl rfl (StepS.pickF rfl hb81 rfl) ?_
                exact TO.up1 5 0 rfl rfl (by rw [hb81]; rfl) rfl
            refine TO.s rfl rfl rfl (StepS.move rfl) ?_
            obtain ⟨b83, hj84, hm⟩ := bind_some hm
            refine TO.mid1 6 128 (.bool b83) ?_ ?_
            · refine bcase (((decide (x77 < x79)) || (decide (x77 > (r70.length : Int))))) (fun hb82 => ?_) (fun hb82 => ?_)
              · replace hj84 := cond_t hb82 hj84
                cases hj84
                refine TO.skip rfl rfl rfl (skipT hb82) rfl rfl ?_
                refine TO.skip rfl rfl rfl (skipT hb82) rfl rfl ?_
                refine TO.skip rfl rfl rfl (skipT hb82) rfl rfl ?_
                refine TO.skip rfl rfl rfl (skipT hb82) rfl rfl ?_
                refine TO.skip rfl rfl rfl (skipT hb82) rfl rfl ?_
                refine TO.s rfl rfl rfl (StepS.pickT rfl hb82 rfl) ?_
                exact TO.up1 6 0 rfl rfl rfl rfl
              · replace hj84 := cond_f hb82 hj84
                refine TO.sw rfl rfl rfl hb82 rfl rfl (StepS.fld rfl kfieldB_26_1_1_true) ?_
                refine TO.sw rfl rfl rfl hb82 rfl rfl (StepS.ldB rfl (Ent.at 6 rfl) kscalB_24_true rfl) ?_
                refine TO.sw rfl rfl rfl hb82 rfl rfl (StepS.move rfl) ?_
                obtain ⟨r85, hc86, hj84⟩ := bind_some hj84
                refine TO.qw rfl rfl rfl hb82 rfl rfl (StepQ.call kcallB_17_true rfl rfl (fun _ st => C17 (OwnS.rd (Ent.at 8 rfl)) hc86 st)) ?_
                refine TO.sw rfl rfl rfl hb82 rfl rfl (StepS.not rfl) ?_
                cases hj84
                refine TO.s rfl rfl rfl (StepS.pickF rfl hb82 rfl) ?_
                exact TO.up1 6 0 rfl rfl rfl rfl
            refine TO.s rfl rfl rfl (StepS.move rfl) ?_
            obtain ⟨b88, hj89, hm⟩ := bind_some hm
            refine TO.mid1 7 136 (.bool b88) ?_ ?_
            · refine bcase (b83) (fun hb87 => ?_) (fun hb87 => ?_)
              · replace hj89 := cond_t hb87 hj89
                cases hj89
                refine TO.skip rfl rfl rfl (skipT hb87) rfl rfl ?_
                refine TO.skip rfl rfl rfl (skipT hb87) rfl rfl ?_
                refine TO.skip rfl rfl rfl (skipT hb87) rfl rfl ?_
                refine TO.skip rfl rfl rfl (skipT hb87) rfl rfl ?_
                refine TO.skip rfl rfl rfl (skipT hb87) rfl rfl ?_
                refine TO.skip rfl rfl rfl (skipT hb87) rfl rfl ?_
                refine TO.s rfl rfl rfl (StepS.pickT rfl hb87 rfl) ?_
                exact TO.up1 7 0 rfl rfl rfl rfl
              · replace hj89 := cond_f hb87 hj89
                refine TO.sw rfl rfl rfl hb87 rfl rfl (StepS.fld rfl kfieldB_26_1_1_true) ?_
                refine TO.sw rfl rfl rfl hb87 rfl rfl (StepS.ldB rfl (Ent.at 6 rfl) kscalB_24_true rfl) ?_
                refine TO.sw rfl rfl rfl hb87 rfl rfl (StepS.fld rfl kfieldB_26_1_1_true) ?_
                refine TO.sw rfl rfl rfl hb87 rfl rfl (StepS.ldB rfl (Ent.at 2 rfl) kscalB_24_true rfl) ?_
                obtain ⟨r90, hc91, hj89⟩ := bind_some hj89
                refine TO.qw rfl rfl rfl hb87 rfl rfl (StepQ.call kcallB_18_true rfl rfl (fun _ st => C18 (OwnS.rd (Ent.at 8 rfl)) (OwnS.rd (Ent.at 4 rfl)) hc91 st)) ?_
                refine TO.sw rfl rfl rfl hb87 rfl rfl (StepS.not rfl) ?_
                cases hj89
                refine TO.s rfl rfl rfl (StepS.pickF rfl hb87 rfl) ?_
                exact TO.up1 7 0 rfl rfl rfl rfl
            refine TO.code ?_
            refine TC.cond rfl (fun hc92 => ?_) (fun hc92 => ?_)
            · replace hm := cond_t hc92 hm
              refine TC.k ?_
              refine TC.region ?_
              refine TO.s rfl rfl rfl (StepS.assign rfl) ?_
              refine TO.code ?_
              cases hm
              refine TC.ret fun a w e s => ?_
              refine FRet.mk1 (P := Tryd.prog) (fn := Tryd.f5) (t := 8) e rfl rfl ?_
              exact ⟨rfl, s.mono fun _ => Sat.dropN 12⟩
            · replace hm := cond_f hc92 hm
              refine TC.skipk ?_
              refine TC.k ?_
              obtain ⟨⟨y97, x98⟩, hj99, hm⟩ := bind_some hm
              first | refine TC.cutM (fun a w => ∃ v94 : Value, ∃ hs95 : List (List Value), Mid 171 B [(1, h1), (14, .pointer (some ⟨b47, 0, none⟩)), (18, I x77), (19, v94), (20, I x98)] (SN 41 4 nT41 v94 hs95 (y97) :: OwnS 45 4 v73 (r70.map cTissi) :: OwnS 3 1 v75 (r71.map cI) :: Bx b47 26 [v40, v43, v45] :: SN 41 4 nT41 v40 hs41 (r37.1) :: OwnS 3 1 v43 (r37.2.1.map cI) :: OwnS 3 1 v45 (r37.2.2.map cI) :: Bx b33 26 [v26, v29, v31] :: SN 41 4 nT41 v26 hs27 (r23.1) :: OwnS 3 1 v29 (r23.2.1.map cI) :: OwnS 3 1 v31 (r23.2.2.map cI) :: OwnS 47 7 v19 (y21.map cTiiiissi) :: Bx b1 45 [I a3.1, .string a3.2.1, .string a3.2.2.1, I a3.2.2.2] :: L) a w) ?_ ?_ | refine TC.cutX (fun a w => ∃ v94 : Value, ∃ hs95 : List (List Value), Mid 171 B [(1, h1), (14, .pointer (some ⟨b47, 0, none⟩)), (18, I x77), (19, v94), (20, I x98)] (SN 41 4 nT41 v94 hs95 (y97) :: OwnS 45 4 v73 (r70.map cTissi) :: OwnS 3 1 v75 (r71.map cI) :: Bx b47 26 [v40, v43, v45] :: SN 41 4 nT41 v40 hs41 (r37.1) :: OwnS 3 1 v43 (r37.2.1.map cI) :: OwnS 3 1 v45 (r37.2.2.map cI) :: Bx b33 26 [v26, v29, v31] :: SN 41 4 nT41 v26 hs27 (r23.1) :: OwnS 3 1 v29 (r23.2.1.map cI) :: OwnS 3 1 v31 (r23.2.2.map cI) :: OwnS 47 7 v19 (y21.map cTiiiissi) :: Bx b1 45 [I a3.1, .string a3.2.1, .string a3.2.2.1, I a3.2.2.2] :: L) a w) ?_ ?_
              · obtain ⟨yq93_3_1, hsq93_3_2, hj99⟩ := bind_some hj99
                obtain ⟨yq93_4_1, hkq93_4_2, hj99⟩ := bind_some hj99
                obtain ⟨yq93_7_1, hkq93_7_2, hj99⟩ := bind_some hj99
                obtain ⟨⟨rq93_8_1, rq93_8_2⟩, hcq93_8_3, hj99⟩ := bind_some hj99
                refine TC.region_any (OwnS 45 4 v73 (r70.map cTissi) :: OwnS 3 1 v75 (r71.map cI) :: Bx b47 26 [v40, v43, v45] :: SN 41 4 nT41 v40 hs41 (r37.1) :: OwnS 3 1 v43 (r37.2.1.map cI) :: OwnS 3 1 v45 (r37.2.2.map cI) :: Bx b33 26 [v26, v29, v31] :: SN 41 4 nT41 v26 hs27 (r23.1) :: OwnS 3 1 v29 (r23.2.1.map cI) :: OwnS 3 1 v31 (r23.2.2.map cI) :: OwnS 47 7 v19 (y21.map cTiiiissi) :: Bx b1 45 [I a3.1, .string a3.2.1, .string a3.2.2.1, I a3.2.2.2] :: L) 14 14 kfollows_mixedOrders_true rfl ?_
                refine TA.takeW 1 rfl rfl rfl rfl (StepS.move rfl) (by kernel_rfl) (by kernel_rfl) (by kernel_rfl) rfl (.inr (fun _ s => s)) ?_
                refine TA.takeW 2 rfl rfl rfl rfl (StepS.move rfl) (by kernel_rfl) (by kernel_rfl) (by kernel_rfl) rfl (.inr (fun _ s => s)) ?_
                obtain ⟨hsq93_3_2a, hsq93_3_2b, hsq93_3_2c, _⟩ := slI_spec hsq93_3_2
                refine TA.take 3 rfl rfl rfl rfl (StepS.slc rfl (OwnS.rd (Ent.at 0 rfl)) ksliceB_34_45_4_true rfl rfl hsq93_3_2a hsq93_3_2b (by simpa using hsq93_3_2c)) (by kernel_rfl) (by kernel_rfl) (by kernel_rfl) (by kernel_rfl) (by kernel_rfl) (fun _ s => s) ?_
                refine TA.take 5 rfl rfl rfl rfl (StepS.ldBA rfl (Ent.at 11 rfl) kaggB_45_4_true rfl rfl) (by kernel_rfl) (by kernel_rfl) (by kernel_rfl) (by kernel_rfl) (by kernel_rfl) (fun _ s => s) ?_
                refine TA.all2 (i := 0) (j := 6) (by kernel_rfl) ?_ ?_
                · refine TB.of rfl ?_
                  refine TO.lit0 (f := cTissi) ksliceB_34_45_4_true rfl fun vq93_0_1 => ?_
                  refine TA.back (.inr (fun _ s => Sat.by [12, 12, 12, 12, 12, 12, 12, 12, 12, 12, 12, 12] 12 1 (by kernel_rfl) s)) ?_
                  refine TA.asL (L' := (OwnS 45 4 vq93_0_1 (([] : List (Int × ByteArray × ByteArray × Int)).map cTissi) :: OwnS 45 4 v73 (r70.map cTissi) :: OwnS 3 1 v75 (r71.map cI) :: Bx b47 26 [v40, v43, v45] :: SN 41 4 nT41 v40 hs41 (r37.1) :: OwnS 3 1 v43 (r37.2.1.map cI) :: OwnS 3 1 v45 (r37.2.2.map cI) :: Bx b33 26 [v26, v29, v31] :: SN 41 4 nT41 v26 hs27 (r23.1) :: OwnS 3 1 v29 (r23.2.1.map cI) :: OwnS 3 1 v31 (r23.2.2.map cI) :: OwnS 47 7 v19 (y21.map cTiiiissi) :: Bx b1 45 [I a3.1, .string a3.2.1, .string a3.2.2.1, I a3.2.2.2] :: L)) (listed' := #[true, true, true, true, false, true, false, false, false, false, false, false, false, false]) (by kernel_rfl) (by kernel_rfl) ?_
                  refine TA.all2 (i := 4) (j := 6) (by kernel_rfl) ?_ ?_
                  · refine TB.of rfl ?_
                    refine TO.app (k := 0) (f := cTissi) kelemB_34_45_4_48_true (by decide) rfl rfl rfl (Ent.sub (OwnS.rd (Ent.at 1 rfl)) hsq93_3_2) hkq93_4_2 (fun x c hc => by simp [Value.oneCell'] at hc ⊢; first | (obtain rfl := hc; rfl) | (rcases hc with rfl | rfl | rfl | rfl <;> rfl)) rfl rfl fun vq93_4_3 => ?_
                    refine TA.back (.inr (fun _ s => Sat.by [12, 12, 12, 12, 12, 12, 12, 12, 12, 12, 12, 12] 12 1 (by kernel_rfl) s)) ?_
                    refine TA.asL (L' := (OwnS 45 4 vq93_4_3 (yq93_4_1.map cTissi) :: OwnS 45 4 v73 (r70.map cTissi) :: OwnS 3 1 v75 (r71.map cI) :: Bx b47 26 [v40, v43, v45] :: SN 41 4 nT41 v40 hs41 (r37.1) :: OwnS 3 1 v43 (r37.2.1.map cI) :: OwnS 3 1 v45 (r37.2.2.map cI) :: Bx b33 26 [v26, v29, v31] :: SN 41 4 nT41 v26 hs27 (r23.1) :: OwnS 3 1 v29 (r23.2.1.map cI) :: OwnS 3 1 v31 (r23.2.2.map cI) :: OwnS 47 7 v19 (y21.map cTiiiissi) :: Bx b1 45 [I a3.1, .string a3.2.1, .string a3.2.2.1, I a3.2.2.2] :: L)) (listed' := #[true, true, true, true, true, true, false, false, false, false, false, false, false, false]) (by kernel_rfl) (by kernel_rfl) ?_
                    refine TA.all1 (i := 6) (by kernel_rfl) ?_
                    refine TB.of rfl ?_
                    refine TO.litS (f := cTissi) ([(a3.1, a3.2.1, a3.2.2.1, a3.2.2.2)] : List (Int × ByteArray × ByteArray × Int)) kelemB_34_45_4_48_true kinfo_45_bind_zero_some_agg_I_0_string_ByteArray_empty_string_ByteArray_empty_I_0 rfl rfl (fun _ => rfl) rfl rfl (by kernel_rfl) rfl fun vq93_6_1 => ?_
                    refine TA.back (.inr (fun _ s => Sat.by [13, 13, 13, 13, 13, 13, 13, 13, 13, 13, 13, 13] 12 2 (by kernel_rfl) s)) ?_
                    refine TA.asL (L' := (OwnS 45 4 vq93_6_1 (([(a3.1, a3.2.1, a3.2.2.1, a3.2.2.2)] : List (Int × ByteArray × ByteArray × Int)).map cTissi) :: OwnS 45 4 vq93_4_3 (yq93_4_1.map cTissi) :: OwnS 45 4 v73 (r70.map cTissi) :: OwnS 3 1 v75 (r71.map cI) :: Bx b47 26 [v40, v43, v45] :: SN 41 4 nT41 v40 hs41 (r37.1) :: OwnS 3 1 v43 (r37.2.1.map cI) :: OwnS 3 1 v45 (r37.2.2.map cI) :: Bx b33 26 [v26, v29, v31] :: SN 41 4 nT41 v26 hs27 (r23.1) :: OwnS 3 1 v29 (r23.2.1.map cI) :: OwnS 3 1 v31 (r23.2.2.map cI) :: OwnS 47 7 v19 (y21.map cTiiiissi) :: Bx b1 45 [I a3.1, .string a3.2.1, .string a3.2.2.1, I a3.2.2.2] :: L)) (listed' := #[true, true, true, true, true, true, true, false, false, false, false, false, false, false]) (by kernel_rfl) (by kernel_rfl) ?_
                    refine TA.all1 (i := 7) (by kernel_rfl) ?_
                    refine TB.of rfl ?_
                    refine TO.app (k := 1) (f := cTissi) kelemB_34_45_4_48_true (by decide) rfl rfl rfl (OwnS.rd (Ent.at 0 rfl)) hkq93_7_2 (fun x c hc => by simp [Value.oneCell'] at hc ⊢; first | (obtain rfl := hc; rfl) | (rcases hc with rfl | rfl | rfl | rfl <;> rfl)) rfl rfl fun vq93_7_3 => ?_
                    refine TA.back (.inr (fun _ s => Sat.by [13, 13, 13, 13, 13, 13, 13, 13, 13, 13, 13, 13] 12 2 (by kernel_rfl) s)) ?_
                    refine TA.asL (L' := (OwnS 45 4 vq93_6_1 (([(a3.1, a3.2.1, a3.2.2.1, a3.2.2.2)] : List (Int × ByteArray × ByteArray × Int)).map cTissi) :: OwnS 45 4 vq93_7_3 (yq93_7_1.map cTissi) :: OwnS 45 4 v73 (r70.map cTissi) :: OwnS 3 1 v75 (r71.map cI) :: Bx b47 26 [v40, v43, v45] :: SN 41 4 nT41 v40 hs41 (r37.1) :: OwnS 3 1 v43 (r37.2.1.map cI) :: OwnS 3 1 v45 (r37.2.2.map cI) :: Bx b33 26 [v26, v29, v31] :: SN 41 4 nT41 v26 hs27 (r23.1) :: OwnS 3 1 v29 (r23.2.1.map cI) :: OwnS 3 1 v31 (r23.2.2.map cI) :: OwnS 47 7 v19 (y21.map cTiiiissi) :: Bx b1 45 [I a3.1, .string a3.2.1, .string a3.2.2.1, I a3.2.2.2] :: L)) (listed' := #[true, true, true, true, true, true, true, true, false, false, false, false, false, false]) (by kernel_rfl) (by kernel_rfl) ?_
                    refine TA.all1 (i := 8) (by kernel_rfl) ?_
                    refine TB.of rfl ?_
                    refine TO.callO kcallB_15_true rfl rfl rfl (fun _ st => C15 (OwnS.rd (Ent.at 1 rfl)) hcq93_8_3 st) ?_
                    rintro _ _ ⟨vq93_8_4, hsq93_8_5, rfl, rfl⟩
                    refine TA.back (.inr (fun _ s => Sat.by [14, 14, 14, 14, 14, 14, 14, 14, 14, 14, 14, 14] 12 3 (by kernel_rfl) s)) ?_
                    refine TA.asL (L' := (SN 41 4 nT41 vq93_8_4 hsq93_8_5 (rq93_8_1) :: OwnS 45 4 vq93_6_1 (([(a3.1, a3.2.1, a3.2.2.1, a3.2.2.2)] : List (Int × ByteArray × ByteArray × Int)).map cTissi) :: OwnS 45 4 vq93_7_3 (yq93_7_1.map cTissi) :: OwnS 45 4 v73 (r70.map cTissi) :: OwnS 3 1 v75 (r71.map cI) :: Bx b47 26 [v40, v43, v45] :: SN 41 4 nT41 v40 hs41 (r37.1) :: OwnS 3 1 v43 (r37.2.1.map cI) :: OwnS 3 1 v45 (r37.2.2.map cI) :: Bx b33 26 [v26, v29, v31] :: SN 41 4 nT41 v26 hs27 (r23.1) :: OwnS 3 1 v29 (r23.2.1.map cI) :: OwnS 3 1 v31 (r23.2.2.map cI) :: OwnS 47 7 v19 (y21.map cTiiiissi) :: Bx b1 45 [I a3.1, .string a3.2.1, .string a3.2.2.1, I a3.2.2.2] :: L)) (listed' := #[true, true, true, true, true, true, true, true, true, false, false, false, false, false]) (by kernel_rfl) (by kernel_rfl) ?_
                    refine TA.takeW 9 rfl rfl rfl rfl (StepS.move rfl) (by kernel_rfl) (by kernel_rfl) (by kernel_rfl) rfl (.inr (fun _ s => Sat.by [14, 14, 14, 14, 14, 14, 14, 14, 14, 14, 14, 14] 12 3 (by kernel_rfl) s)) ?_
                    refine TA.takeW 10 rfl rfl rfl rfl (StepS.extract rfl rfl) (by kernel_rfl) (by kernel_rfl) (by kernel_rfl) rfl (.inr (fun _ s => Sat.by [14, 14, 14, 14, 14, 14, 14, 14, 14, 14, 14, 14] 12 3 (by kernel_rfl) s)) ?_
                    refine TA.takeW 11 rfl rfl rfl rfl (StepS.extract rfl rfl) (by kernel_rfl) (by kernel_rfl) (by kernel_rfl) rfl (.inr (fun _ s => Sat.by [14, 14, 14, 14, 14, 14, 14, 14, 14, 14, 14, 14] 12 3 (by kernel_rfl) s)) ?_
                    refine TA.takeW 12 rfl rfl rfl rfl (StepS.assign rfl) (by kernel_rfl) (by kernel_rfl) (by kernel_rfl) rfl (.inr (fun _ s => Sat.by [14, 14, 14, 14, 14, 14, 14, 14, 14, 14, 14, 14] 12 3 (by kernel_rfl) s)) ?_
                    refine TA.takeW 13 rfl rfl rfl rfl (StepS.assign rfl) (by kernel_rfl) (by kernel_rfl) (by kernel_rfl) rfl (.inr (fun _ s => Sat.by [14, 14, 14, 14, 14, 14, 14, 14, 14, 14, 14, 14] 12 3 (by kernel_rfl) s)) ?_
                    cases hj99
                    refine TA.nil (by kernel_rfl) fun a w e s => ?_
                    exact ⟨vq93_8_4, hsq93_8_5, e.sub (lk_of_allIn ⟨rfl, rfl, rfl, rfl, rfl, trivial⟩), s.mono fun _ s => (by exact Sat.by [14, 14, 14, 14, 14, 14, 14, 14, 14, 14, 14, 14, 12] 13 2 (by kernel_rfl) s)⟩
                  · refine TB.of rfl ?_
                    refine TO.litS (f := cTissi) ([(a3.1, a3.2.1, a3.2.2.1, a3.2.2.2)] : List (Int × ByteArray × ByteArray × Int)) kelemB_34_45_4_48_true kinfo_45_bind_zero_some_agg_I_0_string_ByteArray_empty_string_ByteArray_empty_I_0 rfl rfl (fun _ => rfl) rfl rfl (by kernel_rfl) rfl fun vq93_6_1 => ?_
                    refine TA.back (.inr (fun _ s => Sat.by [13, 13, 13, 13, 13, 13, 13, 13, 13, 13, 13, 13] 12 2 (by kernel_rfl) s)) ?_
                    refine TA.asL (L' := (OwnS 45 4 vq93_6_1 (([(a3.1, a3.2.1, a3.2.2.1, a3.2.2.2)] : List (Int × ByteArray × ByteArray × Int)).map cTissi) :: OwnS 45 4 vq93_0_1 (([] : List (Int × ByteArray × ByteArray × Int)).map cTissi) :: OwnS 45 4 v73 (r70.map cTissi) :: OwnS 3 1 v75 (r71.map cI) :: Bx b47 26 [v40, v43, v45] :: SN 41 4 nT41 v40 hs41 (r37.1) :: OwnS 3 1 v43 (r37.2.1.map cI) :: OwnS 3 1 v45 (r37.2.2.map cI) :: Bx b33 26 [v26, v29, v31] :: SN 41 4 nT41 v26 hs27 (r23.1) :: OwnS 3 1 v29 (r23.2.1.map cI) :: OwnS 3 1 v31 (r23.2.2.map cI) :: OwnS 47 7 v19 (y21.map cTiiiissi) :: Bx b1 45 [I a3.1, .string a3.2.1, .string a3.2.2.1, I a3.2.2.2] :: L)) (listed' := #[true, true, true, true, false, true, true, false, false, false, false, false, false, false]) (by kernel_rfl) (by kernel_rfl) ?_
                    refine TA.all1 (i := 4) (by kernel_rfl) ?_
                    refine TB.of rfl ?_
                    refine TO.app (k := 1) (f := cTissi) kelemB_34_45_4_48_true (by decide) rfl rfl rfl (Ent.sub (OwnS.rd (Ent.at 2 rfl)) hsq93_3_2) hkq93_4_2 (fun x c hc => by simp [Value.oneCell'] at hc ⊢; first | (obtain rfl := hc; rfl) | (rcases hc with rfl | rfl | rfl | rfl <;> rfl)) rfl rfl fun vq93_4_3 => ?_
                    refine TA.back (.inr (fun _ s => Sat.by [13, 13, 13, 13, 13, 13, 13, 13, 13, 13, 13, 13] 12 2 (by kernel_rfl) s)) ?_
                    refine TA.asL (L' := (OwnS 45 4 vq93_6_1 (([(a3.1, a3.2.1, a3.2.2.1, a3.2.2.2)] : List (Int × ByteArray × ByteArray × Int)).map cTissi) :: OwnS 45 4 vq93_4_3 (yq93_4_1.map cTissi) :: OwnS 45 4 v73 (r70.map cTissi) :: OwnS 3 1 v75 (r71.map cI) :: Bx b47 26 [v40, v43, v45] :: SN 41 4 nT41 v40 hs41 (r37.1) :: OwnS 3 1 v43 (r37.2.1.map cI) :: OwnS 3 1 v45 (r37.2.2.map cI) :: Bx b33 26 [v26, v29, v31] :: SN 41 4 nT41 v26 hs27 (r23.1) :: OwnS 3 1 v29 (r23.2.1.map cI) :: OwnS 3 1 v31 (r23.2.2.map cI) :: OwnS 47 7 v19 (y21.map cTiiiissi) :: Bx b1 45 [I a3.1, .string a3.2.1, .string a3.2.2.1, I a3.2.2.2] :: L)) (listed' := #[true, true, true, true, true, true, true, false, false, false, false, false, false, false]) (by kernel_rfl) (by kernel_rfl) ?_
                    refine TA.all1 (i := 7) (by kernel_rfl) ?_
                    refine TB.of rfl ?_
                    refine TO.app (k := 1) (f := cTissi) kelemB_34_45_4_48_true (by decide) rfl rfl rfl (OwnS.rd (Ent.at 0 rfl)) hkq93_7_2 (fun x c hc => by simp [Value.oneCell'] at hc ⊢; first | (obtain rfl := hc; rfl) | (rcases hc with rfl | rfl | rfl | rfl <;> rfl)) rfl rfl fun vq93_7_3 => ?_
                    refine TA.back (.inr (fun _ s => Sat.by [13, 13, 13, 13, 13, 13, 13, 13, 13, 13, 13, 13] 12 2 (by kernel_rfl) s)) ?_
                    refine TA.asL (L' := (OwnS 45 4 vq93_6_1 (([(a3.1, a3.2.1, a3.2.2.1, a3.2.2.2)] : List (Int × ByteArray × ByteArray × Int)).map cTissi) :: OwnS 45 4 vq93_7_3 (yq93_7_1.map cTissi) :: OwnS 45 4 v73 (r70.map cTissi) :: OwnS 3 1 v75 (r71.map cI) :: Bx b47 26 [v40, v43, v45] :: SN 41 4 nT41 v40 hs41 (r37.1) :: OwnS 3 1 v43 (r37.2.1.map cI) :: OwnS 3 1 v45 (r37.2.2.map cI) :: Bx b33 26 [v26, v29, v31] :: SN 41 4 nT41 v26 hs27 (r23.1) :: OwnS 3 1 v29 (r23.2.1.map cI) :: OwnS 3 1 v31 (r23.2.2.map cI) :: OwnS 47 7 v19 (y21.map cTiiiissi) :: Bx b1 45 [I a3.1, .string a3.2.1, .string a3.2.2.1, I a3.2.2.2] :: L)) (listed' := #[true, true, true, true, true, true, true, true, false, false, false, false, false, false]) (by kernel_rfl) (by kernel_rfl) ?_
                    refine TA.all1 (i := 8) (by kernel_rfl) ?_
                    refine TB.of rfl ?_
                    refine TO.callO kcallB_15_true rfl rfl rfl (fun _ st => C15 (OwnS.rd (Ent.at 1 rfl)) hcq93_8_3 st) ?_
                    rintro _ _ ⟨vq93_8_4, hsq93_8_5, rfl, rfl⟩
                    refine TA.back (.inr (fun _ s => Sat.by [14, 14, 14, 14, 14, 14, 14, 14, 14, 14, 14, 14] 12 3 (by kernel_rfl) s)) ?_
                    refine TA.asL (L' := (SN 41 4 nT41 vq93_8_4 hsq93_8_5 (rq93_8_1) :: OwnS 45 4 vq93_6_1 (([(a3.1, a3.2.1, a3.2.2.1, a3.2.2.2)] : List (Int × ByteArray × ByteArray × Int)).map cTissi) :: OwnS 45 4 vq93_7_3 (yq93_7_1.map cTissi) :: OwnS 45 4 v73 (r70.map cTissi) :: OwnS 3 1 v75 (r71.map cI) :: Bx b47 26 [v40, v43, v45] :: SN 41 4 nT41 v40 hs41 (r37.1) :: OwnS 3 1 v43 (r37.2.1.map cI) :: OwnS 3 1 v45 (r37.2.2.map cI) :: Bx b33 26 [v26, v29, v31] :: SN 41 4 nT41 v26 hs27 (r23.1) :: OwnS 3 1 v29 (r23.2.1.map cI) :: OwnS 3 1 v31 (r23.2.2.map cI) :: OwnS 47 7 v19 (y21.map cTiiiissi) :: Bx b1 45 [I a3.1, .string a3.2.1, .string a3.2.2.1, I a3.2.2.2] :: L)) (listed' := #[true, true, true, true, true, true, true, true, true, false, false, false, false, false]) (by kernel_rfl) (by kernel_rfl) ?_
                    refine TA.takeW 9 rfl rfl rfl rfl (StepS.move rfl) (by kernel_rfl) (by kernel_rfl) (by kernel_rfl) rfl (.inr (fun _ s => Sat.by [14, 14, 14, 14, 14, 14, 14, 14, 14, 14, 14, 14] 12 3 (by kernel_rfl) s)) ?_
                    refine TA.takeW 10 rfl rfl rfl rfl (StepS.extract rfl rfl) (by kernel_rfl) (by kernel_rfl) (by kernel_rfl) rfl (.inr (fun _ s => Sat.by [14, 14, 14, 14, 14, 14, 14, 14, 14, 14, 14, 14] 12 3 (by kernel_rfl) s)) ?_
                    refine TA.takeW 11 rfl rfl rfl rfl (StepS.extract rfl rfl) (by kernel_rfl) (by kernel_rfl) (by kernel_rfl) rfl (.inr (fun _ s => Sat.by [14, 14, 14, 14, 14, 14, 14, 14, 14, 14, 14, 14] 12 3 (by kernel_rfl) s)) ?_
                    refine TA.takeW 12 rfl rfl rfl rfl (StepS.assign rfl) (by kernel_rfl) (by kernel_rfl) (by kernel_rfl) rfl (.inr (fun _ s => Sat.by [14, 14, 14, 14, 14, 14, 14, 14, 14, 14, 14, 14] 12 3 (by kernel_rfl) s)) ?_
                    refine TA.takeW 13 rfl rfl rfl rfl (StepS.assign rfl) (by kernel_rfl) (by kernel_rfl) (by kernel_rfl) rfl (.inr (fun _ s => Sat.by [14, 14, 14, 14, 14, 14, 14, 14, 14, 14, 14, 14] 12 3 (by kernel_rfl) s)) ?_
                    cases hj99
                    refine TA.nil (by kernel_rfl) fun a w e s => ?_
                    exact ⟨vq93_8_4, hsq93_8_5, e.sub (lk_of_allIn ⟨rfl, rfl, rfl, rfl, rfl, trivial⟩), s.mono fun _ s => (by exact Sat.by [14, 14, 14, 14, 14, 14, 14, 14, 14, 14, 14, 14, 12] 13 2 (by kernel_rfl) s)⟩
                · refine TB.of rfl ?_
                  refine TO.litS (f := cTissi) ([(a3.1, a3.2.1, a3.2.2.1, a3.2.2.2)] : List (Int × ByteArray × ByteArray × Int)) kelemB_34_45_4_48_true kinfo_45_bind_zero_some_agg_I_0_string_ByteArray_empty_string_ByteArray_empty_I_0 rfl rfl (fun _ => rfl) rfl rfl (by kernel_rfl) rfl fun vq93_6_1 => ?_
                  refine TA.back (.inr (fun _ s => Sat.by [12, 12, 12, 12, 12, 12, 12, 12, 12, 12, 12, 12] 12 1 (by kernel_rfl) s)) ?_
                  refine TA.asL (L' := (OwnS 45 4 vq93_6_1 (([(a3.1, a3.2.1, a3.2.2.1, a3.2.2.2)] : List (Int × ByteArray × ByteArray × Int)).map cTissi) :: OwnS 45 4 v73 (r70.map cTissi) :: OwnS 3 1 v75 (r71.map cI) :: Bx b47 26 [v40, v43, v45] :: SN 41 4 nT41 v40 hs41 (r37.1) :: OwnS 3 1 v43 (r37.2.1.map cI) :: OwnS 3 1 v45 (r37.2.2.map cI) :: Bx b33 26 [v26, v29, v31] :: SN 41 4 nT41 v26 hs27 (r23.1) :: OwnS 3 1 v29 (r23.2.1.map cI) :: OwnS 3 1 v31 (r23.2.2.map cI) :: OwnS 47 7 v19 (y21.map cTiiiissi) :: Bx b1 45 [I a3.1, .string a3.2.1, .string a3.2.2.1, I a3.2.2.2] :: L)) (listed' := #[false, true, true, true, false, true, true, false, false, false, false, false, false, false]) (by kernel_rfl) (by kernel_rfl) ?_
                  refine TA.all1 (i := 0) (by kernel_rfl) ?_
                  refine TB.of rfl ?_
                  refine TO.lit0 (f := cTissi) ksliceB_34_45_4_true rfl fun vq93_0_1 => ?_
                  refine TA.back (.inr (fun _ s => Sat.by [13, 13, 13, 13, 13, 13, 13, 13, 13, 13, 13, 13] 12 2 (by kernel_rfl) s)) ?_
                  refine TA.asL (L' := (OwnS 45 4 vq93_0_1 (([] : List (Int × ByteArray × ByteArray × Int)).map cTissi) :: OwnS 45 4 vq93_6_1 (([(a3.1, a3.2.1, a3.2.2.1, a3.2.2.2)] : List (Int × ByteArray × ByteArray × Int)).map cTissi) :: OwnS 45 4 v73 (r70.map cTissi) :: OwnS 3 1 v75 (r71.map cI) :: Bx b47 26 [v40, v43, v45] :: SN 41 4 nT41 v40 hs41 (r37.1) :: OwnS 3 1 v43 (r37.2.1.map cI) :: OwnS 3 1 v45 (r37.2.2.map cI) :: Bx b33 26 [v26, v29, v31] :: SN 41 4 nT41 v26 hs27 (r23.1) :: OwnS 3 1 v29 (r23.2.1.map cI) :: OwnS 3 1 v31 (r23.2.2.map cI) :: OwnS 47 7 v19 (y21.map cTiiiissi) :: Bx b1 45 [I a3.1, .string a3.2.1, .string a3.2.2.1, I a3.2.2.2] :: L)) (listed' := #[true, true, true, true, false, true, true, false, false, false, false, false, false, false]) (by kernel_rfl) (by kernel_rfl) ?_
                  refine TA.all1 (i := 4) (by kernel_rfl) ?_
                  refine TB.of rfl ?_
                  refine TO.app (k := 0) (f := cTissi) kelemB_34_45_4_48_true (by decide) rfl rfl rfl (Ent.sub (OwnS.rd (Ent.at 2 rfl)) hsq93_3_2) hkq93_4_2 (fun x c hc => by simp [Value.oneCell'] at hc ⊢; first | (obtain rfl := hc; rfl) | (rcases hc with rfl | rfl | rfl | rfl <;> rfl)) rfl rfl fun vq93_4_3 => ?_
                  refine TA.back (.inr (fun _ s => Sat.by [13, 13, 13, 13, 13, 13, 13, 13, 13, 13, 13, 13] 12 2 (by kernel_rfl) s)) ?_
                  refine TA.asL (L' := (OwnS 45 4 vq93_4_3 (yq93_4_1.map cTissi) :: OwnS 45 4 vq93_6_1 (([(a3.1, a3.2.1, a3.2.2.1, a3.2.2.2)] : List (Int × ByteArray × ByteArray × Int)).map cTissi) :: OwnS 45 4 v73 (r70.map cTissi) :: OwnS 3 1 v75 (r71.map cI) :: Bx b47 26 [v40, v43, v45] :: SN 41 4 nT41 v40 hs41 (r37.1) :: OwnS 3 1 v43 (r37.2.1.map cI) :: OwnS 3 1 v45 (r37.2.2.map cI) :: Bx b33 26 [v26, v29, v31] :: SN 41 4 nT41 v26 hs27 (r23.1) :: OwnS 3 1 v29 (r23.2.1.map cI) :: OwnS 3 1 v31 (r23.2.2.map cI) :: OwnS 47 7 v19 (y21.map cTiiiissi) :: Bx b1 45 [I a3.1, .string a3.2.1, .string a3.2.2.1, I a3.2.2.2] :: L)) (listed' := #[true, true, true, true, true, true, true, false, false, false, false, false, false, false]) (by kernel_rfl) (by kernel_rfl) ?_
                  refine TA.all1 (i := 7) (by kernel_rfl) ?_
                  refine TB.of rfl ?_
                  refine TO.app (k := 0) (f := cTissi) kelemB_34_45_4_48_true (by decide) rfl rfl rfl (OwnS.rd (Ent.at 1 rfl)) hkq93_7_2 (fun x c hc => by simp [Value.oneCell'] at hc ⊢; first | (obtain rfl := hc; rfl) | (rcases hc with rfl | rfl | rfl | rfl <;> rfl)) rfl rfl fun vq93_7_3 => ?_
                  refine TA.back (.inr (fun _ s => Sat.by [13, 13, 13, 13, 13, 13, 13, 13, 13, 13, 13, 13] 12 2 (by kernel_rfl) s)) ?_
                  refine TA.asL (L' := (OwnS 45 4 vq93_7_3 (yq93_7_1.map cTissi) :: OwnS 45 4 vq93_6_1 (([(a3.1, a3.2.1, a3.2.2.1, a3.2.2.2)] : List (Int × ByteArray × ByteArray × Int)).map cTissi) :: OwnS 45 4 v73 (r70.map cTissi) :: OwnS 3 1 v75 (r71.map cI) :: Bx b47 26 [v40, v43, v45] :: SN 41 4 nT41 v40 hs41 (r37.1) :: OwnS 3 1 v43 (r37.2.1.map cI) :: OwnS 3 1 v45 (r37.2.2.map cI) :: Bx b33 26 [v26, v29, v31] :: SN 41 4 nT41 v26 hs27 (r23.1) :: OwnS 3 1 v29 (r23.2.1.map cI) :: OwnS 3 1 v31 (r23.2.2.map cI) :: OwnS 47 7 v19 (y21.map cTiiiissi) :: Bx b1 45 [I a3.1, .string a3.2.1, .string a3.2.2.1, I a3.2.2.2] :: L)) (listed' := #[true, true, true, true, true, true, true, true, false, false, false, false, false, false]) (by kernel_rfl) (by kernel_rfl) ?_
                  refine TA.all1 (i := 8) (by kernel_rfl) ?_
                  refine TB.of rfl ?_
                  refine TO.callO kcallB_15_true rfl rfl rfl (fun _ st => C15 (OwnS.rd (Ent.at 0 rfl)) hcq93_8_3 st) ?_
                  rintro _ _ ⟨vq93_8_4, hsq93_8_5, rfl, rfl⟩
                  refine TA.back (.inr (fun _ s => Sat.by [14, 14, 14, 14, 14, 14, 14, 14, 14, 14, 14, 14] 12 3 (by kernel_rfl) s)) ?_
                  refine TA.asL (L' := (SN 41 4 nT41 vq93_8_4 hsq93_8_5 (rq93_8_1) :: OwnS 45 4 vq93_7_3 (yq93_7_1.map cTissi) :: OwnS 45 4 vq93_6_1 (([(a3.1, a3.2.1, a3.2.2.1, a3.2.2.2)] : List (Int × ByteArray × ByteArray × Int)).map cTissi) :: OwnS 45 4 v73 (r70.map cTissi) :: OwnS 3 1 v75 (r71.map cI) :: Bx b47 26 [v40, v43, v45] :: SN 41 4 nT41 v40 hs41 (r37.1) :: OwnS 3 1 v43 (r37.2.1.map cI) :: OwnS 3 1 v45 (r37.2.2.map cI) :: Bx b33 26 [v26, v29, v31] :: SN 41 4 nT41 v26 hs27 (r23.1) :: OwnS 3 1 v29 (r23.2.1.map cI) :: OwnS 3 1 v31 (r23.2.2.map cI) :: OwnS 47 7 v19 (y21.map cTiiiissi) :: Bx b1 45 [I a3.1, .string a3.2.1, .string a3.2.2.1, I a3.2.2.2] :: L)) (listed' := #[true, true, true, true, true, true, true, true, true, false, false, false, false, false]) (by kernel_rfl) (by kernel_rfl) ?_
                  refine TA.takeW 9 rfl rfl rfl rfl (StepS.move rfl) (by kernel_rfl) (by kernel_rfl) (by kernel_rfl) rfl (.inr (fun _ s => Sat.by [14, 14, 14, 14, 14, 14, 14, 14, 14, 14, 14, 14] 12 3 (by kernel_rfl) s)) ?_
                  refine TA.takeW 10 rfl rfl rfl rfl (StepS.extract rfl rfl) (by kernel_rfl) (by kernel_rfl) (by kernel_rfl) rfl (.inr (fun _ s => Sat.by [14, 14, 14, 14, 14, 14, 14, 14, 14, 14, 14, 14] 12 3 (by kernel_rfl) s)) ?_
                  refine TA.takeW 11 rfl rfl rfl rfl (StepS.extract rfl rfl) (by kernel_rfl) (by kernel_rfl) (by kernel_rfl) rfl (.inr (fun _ s => Sat.by [14, 14, 14, 14, 14, 14, 14, 14, 14, 14, 14, 14] 12 3 (by kernel_rfl) s)) ?_
                  refine TA.takeW 12 rfl rfl rfl rfl (StepS.assign rfl) (by kernel_rfl) (by kernel_rfl) (by kernel_rfl) rfl (.inr (fun _ s => Sat.by [14, 14, 14, 14, 14, 14, 14, 14, 14, 14, 14, 14] 12 3 (by kernel_rfl) s)) ?_
                  refine TA.takeW 13 rfl rfl rfl rfl (StepS.assign rfl) (by kernel_rfl) (by kernel_rfl) (by kernel_rfl) rfl (.inr (fun _ s => Sat.by [14, 14, 14, 14, 14, 14, 14, 14, 14, 14, 14, 14] 12 3 (by kernel_rfl) s)) ?_
                  cases hj99
                  refine TA.nil (by kernel_rfl) fun a w e s => ?_
                  exact ⟨vq93_8_4, hsq93_8_5, e.sub (lk_of_allIn ⟨rfl, rfl, rfl, rfl, rfl, trivial⟩), s.mono fun _ s => (by exact Sat.by [14, 14, 14, 14, 14, 14, 14, 14, 14, 14, 14, 14, 12] 13 2 (by kernel_rfl) s)⟩
              · intro a w ⟨v94, hs95, he, hs⟩
                refine TC.use ?_ he hs
                refine TC.k ?_
                refine TC.region_quiet kfollows_mixedOrders_true (by kernel_rfl) ?_
                refine TQ.s rfl rfl rfl (StepS.move rfl).q ?_
                refine TQ.s rfl rfl rfl (StepS.cmp rfl rfl rfl).q ?_
                refine TQ.s rfl rfl rfl (StepS.move rfl).q ?_
                refine TQ.mid1 6 157 (.bool ((x98 == 0) && ((y97.length : Int) == (w64 (x77 + 1))))) ?_ ?_
                · refine bcase ((x98 == 0)) (fun hb100 => ?_) (fun hb100 => ?_)
                  · refine TQ.sw rfl rfl rfl hb100 rfl rfl (StepS.move rfl).q ?_
                    refine TQ.sw rfl rfl rfl hb100 rfl rfl (StepS.lenN rfl (Ent.at 0 rfl) ksliceB_23_41_4_true rfl).q ?_
                    refine TQ.sw rfl rfl rfl hb100 rfl rfl (StepS.move rfl).q ?_
                    refine TQ.sw rfl rfl rfl hb100 rfl rfl (StepS.ari rfl rfl rfl).q ?_
                    refine TQ.sw rfl rfl rfl hb100 rfl rfl (StepS.cmp rfl rfl rfl).q ?_
                    refine TQ.s rfl rfl rfl (StepS.pickT rfl hb100 rfl).q ?_
                    exact TQ.up1 6 0 rfl rfl (by rw [hb100]; rfl) rfl
                  · refine TQ.skip rfl rfl rfl (skipF hb100) rfl rfl ?_
                    refine TQ.skip rfl rfl rfl (skipF hb100) rfl rfl ?_
                    refine TQ.skip rfl rfl rfl (skipF hb100) rfl rfl ?_
                    refine TQ.skip rfl rfl rfl (skipF hb100) rfl rfl ?_
                    refine TQ.skip rfl rfl rfl (skipF hb100) rfl rfl ?_
                    refine TQ.s rfl rfl rfl (StepS.pickF rfl hb100 rfl).q ?_
                    exact TQ.up1 6 0 rfl rfl (by rw [hb100]; rfl) rfl
                refine TQ.s rfl rfl rfl (StepS.move rfl).q ?_
                obtain ⟨b102, hj103, hm⟩ := bind_some hm
                refine TQ.mid1 12 170 (.bool b102) ?_ ?_
                · refine bcase (((x98 == 0) && ((y97.length : Int) == (w64 (x77 + 1))))) (fun hb101 => ?_) (fun hb101 => ?_)
                  · replace hj103 := cond_t hb101 hj103
                    refine TQ.sw rfl rfl rfl hb101 rfl rfl (StepS.move rfl).q ?_
                    refine TQ.sw rfl rfl rfl hb101 rfl rfl (StepS.move rfl).q ?_
                    obtain ⟨x104, hx105, hj103⟩ := bind_some hj103
                    refine TQ.sw rfl rfl rfl hb101 rfl rfl (StepS.idxN rfl rfl (Ent.at 0 rfl) ksliceB_23_41_4_true hx105).q ?_
                    refine TQ.sw rfl rfl rfl hb101 rfl rfl (StepS.ldNE (cs := [I x104.1, .string x104.2.1, I x104.2.2.1, (cv (gr hs95 x77.toNat) 0)]) rfl (Ent.at 0 rfl) kaggB_41_4_true hx105 rfl rfl).q ?_
                    refine TQ.sw rfl rfl rfl hb101 rfl rfl (StepS.fld rfl kfieldB_26_0_0_true).q ?_
                    refine TQ.sw rfl rfl rfl hb101 rfl rfl (StepS.ldB rfl (Ent.at 3 rfl) kscalB_23_true rfl).q ?_
                    refine TQ.sw rfl rfl rfl hb101 rfl rfl (StepS.move rfl).q ?_
                    refine TQ.sw rfl rfl rfl hb101 rfl rfl (StepS.lenm rfl e1.tl.tl.tl.tl.tl.tl.tl.tl.tl.tl.tl.tl.tl ksliceB_22_47_7_true rfl).q ?_
                    obtain ⟨x106, hx107, hj103⟩ := bind_some hj103
                    refine TQ.sw rfl rfl rfl hb101 rfl rfl (StepS.idxN rfl rfl (Ent.at 4 rfl) ksliceB_23_41_4_true hx107).q ?_
                    refine TQ.sw rfl rfl rfl hb101 rfl rfl (StepS.ldNE (cs := [I x106.1, .string x106.2.1, I x106.2.2.1, (cv (gr hs41 (a1.length : Int).toNat) 0)]) rfl (Ent.at 4 rfl) kaggB_41_4_true hx107 rfl rfl).q ?_
                    obtain ⟨r108, hc109, hj103⟩ := bind_some hj103
                    refine TQ.sw rfl rfl rfl hb101 rfl rfl (StepQ.call kcallB_16_true rfl rfl (fun _ st => C16 (OwnS.rd (SN.piece (Ent.at 0 rfl) hx105 0 rfl)) (OwnS.rd (SN.piece (Ent.at 4 rfl) hx107 0 rfl)) hc109 st)) ?_
                    cases hj103
                    refine TQ.s rfl rfl rfl (StepS.pickT rfl hb101 rfl).q ?_
                    exact TQ.up1 12 0 rfl rfl rfl rfl
                  · replace hj103 := cond_f hb101 hj103
                    cases hj103
                    refine TQ.skip rfl rfl rfl (skipF hb101) rfl rfl ?_
                    refine TQ.skip rfl rfl rfl (skipF hb101) rfl rfl ?_
                    refine TQ.skip rfl rfl rfl (skipF hb101) rfl rfl ?_
                    refine TQ.skip rfl rfl rfl (skipF hb101) rfl rfl ?_
                    refine TQ.skip rfl rfl rfl (skipF hb101) rfl rfl ?_
                    refine TQ.skip rfl rfl rfl (skipF hb101) rfl rfl ?_
                    refine TQ.skip rfl rfl rfl (skipF hb101) rfl rfl ?_
                    refine TQ.skip rfl rfl rfl (skipF hb101) rfl rfl ?_
                    refine TQ.skip rfl rfl rfl (skipF hb101) rfl rfl ?_
                    refine TQ.skip rfl rfl rfl (skipF hb101) rfl rfl ?_
                    refine TQ.skip rfl rfl rfl (skipF hb101) rfl rfl ?_
                    refine TQ.s rfl rfl rfl (StepS.pickF rfl hb101 rfl).q ?_
                    exact TQ.up1 12 0 rfl rfl rfl rfl
                refine TQ.s rfl rfl rfl (StepS.assign rfl).q ?_
                refine TQ.code ?_
                cases hm
                refine TC.ret fun a w e s => ?_
                refine FRet.mk1 (P := Tryd.prog) (fn := Tryd.f5) (t := 8) e rfl rfl ?_
                exact ⟨rfl, s.mono fun _ => Sat.dropN 13⟩
end Go.Proofs.YtadfgohglcglcaaDoor
