/-
  The walks: each Go function returns what its model says. Written by a program (gen.py).
-/
import Derived.Test.YtacggcanjanmkaaProg
import Derived.KernelRfl
import Derived.Test.YtacggcanjanmkaaAW
import Derived.Test.YtacggcanjanmkaaBW
import Derived.Test.YtacggcanjanmkaaCW
import Derived.Test.YtacggcanjanmkaaDW
import Derived.Test.YtacggcanjanmkaaEW
import Derived.Test.YtacggcanjanmkaaFM
namespace Go.Proofs.Ytacggcanjanmkaa
open Go Go.Bk
set_option linter.unusedVariables false
set_option linter.unnecessarySimpa false
theorem kcallB_15_true : callB Try.prog 15 = true := by kernel_rfl
theorem kcallB_16_true : callB Try.prog 16 = true := by kernel_rfl
theorem kaggB_61_8_true : aggB Try.prog 61 8 = true := by kernel_rfl
theorem ksizeB_61_8_true : sizeB Try.prog 61 8 = true := by kernel_rfl

set_option maxRecDepth 100000 in
theorem C6 {B : World} {L : List HP} {a0 : Int} {a1 : List (Int × Int × Int × Int)} {h1 : Value} {r0 : (List Int) × (List Int) × (List Int) × (List (List (Int × Int))) × List Int} (e1 : Ent L (Rd 4 h1 (a1.map cTiiii))) (hm : F6 a0 a1 = some r0) {w : World} (st : St B L w) : Calls Try.prog 6 #[I a0, h1] w (fun e w' => ∃ v M, e = .returned v ∧ (∃ (qv1 : Value) (qv2 : Value) (qv3 : Value) (qv4 : Value) (qhs5 : List Value) (qv6 : Value), v = .agg #[qv1, qv2, qv3, qv4, qv6] ∧ M = (OwnS 28 1 qv1 (r0.1.map cI) :: OwnS 3 1 qv2 (r0.2.1.map cI) :: OwnS 3 1 qv3 (r0.2.2.1.map cI) :: SS 36 52 2 cTii qv4 qhs5 (r0.2.2.2.1) :: OwnS 3 1 qv6 (r0.2.2.2.2.map cI) :: L)) ∧ St B M w') := by
  refine calls_of (N := 68) (L := L) (args := [I a0, h1]) Try.func6 rfl rfl rfl ?_ st
  dsimp only [F6] at hm
  refine TC.k ?_
  refine TC.region ?_
  refine TO.alloc kinfo_27_bind_zero_some_agg_slice_none_0_0_slice_none_0_0_slice_none_0_0_slice_none_0_0_slice_none_0_0 rfl rfl fun b6 => ?_
  refine TO.code ?_
  refine TC.k ?_
  refine TC.region ?_
  refine TO.s rfl rfl rfl (StepS.move rfl) ?_
  obtain ⟨r7, hc8, hm⟩ := bind_some hm
  refine TO.callO kcallB_15_true rfl rfl rfl (fun _ st => C15  hc8 st) ?_
  rintro _ _ ⟨b14, v9, hs10, v12, rfl, rfl⟩
  refine TO.s rfl rfl rfl (StepS.assign rfl) ?_
  refine TO.code ?_
  refine TC.k ?_
  refine TC.region ?_
  refine TO.s rfl rfl rfl (StepS.build (cs := [.slice none 0 0, .slice none 0 0, .slice none 0 0, .slice none 0 0, .slice none 0 0]) rfl (by kernel_rfl)) ?_
  refine TO.alloc kinfo_27_bind_zero_some_agg_slice_none_0_0_slice_none_0_0_slice_none_0_0_slice_none_0_0_slice_none_0_0 rfl rfl fun b15 => ?_
  refine TO.stB (us := [.slice none 0 0, .slice none 0 0, .slice none 0 0, .slice none 0 0, .slice none 0 0]) 0 [.slice none 0 0, .slice none 0 0, .slice none 0 0, .slice none 0 0, .slice none 0 0] rfl rfl rfl ksizeB_27_5_true rfl rfl rfl (by simp [Value.oneCell']) rfl ?_
  refine TO.code ?_
  refine TC.k ?_
  refine TC.k ?_
  refine TC.region ?_
  refine TO.s rfl rfl rfl (StepS.move rfl) ?_
  refine TO.s rfl rfl rfl (StepS.lenm rfl e1.tl.tl.tl.tl.tl ksliceB_22_45_4_true rfl) ?_
  refine TO.s rfl rfl rfl (StepS.move rfl) ?_
  refine TO.code ?_
  obtain ⟨o42, hw43, hm⟩ := bind_some hm
  refine TC.loop hw43 (fun (y18, y21, y22, x24) => fun a w => ∃ v16 : Value, ∃ v19 : Value, ∃ hs23 : List (List Value), Mid 68 B [(4, .pointer (some ⟨b6, 0, none⟩)), (5, .pointer (some ⟨b14, 0, none⟩)), (6, .pointer (some ⟨b15, 0, none⟩)), (14, h1), (15, I (a1.length : Int)), (16, I x24)] (OwnS 28 1 v16 (y18.map cI) :: OwnS 79 2 v19 (y21.map cTii) :: Bx b15 27 [v16, .slice none 0 0, .slice none 0 0, .slice none 0 0, .slice none 0 0] :: Bx b14 59 [v9, v19] :: SN 61 8 nT61 v9 hs23 (y22) :: Bx b6 27 [.slice none 0 0, .slice none 0 0, .slice none 0 0, .slice none 0 0, .slice none 0 0] :: L) a w) (fun (y36, y39, y40) => fun a w => ∃ v34 : Value, ∃ v37 : Value, ∃ hs41 : List (List Value), Mid 68 B [(4, .pointer (some ⟨b6, 0, none⟩)), (5, .pointer (some ⟨b14, 0, none⟩)), (6, .pointer (some ⟨b15, 0, none⟩))] (OwnS 28 1 v34 (y36.map cI) :: OwnS 79 2 v37 (y39.map cTii) :: Bx b15 27 [v34, .slice none 0 0, .slice none 0 0, .slice none 0 0, .slice none 0 0] :: Bx b14 59 [v9, v37] :: SN 61 8 nT61 v9 hs41 (y40) :: Bx b6 27 [.slice none 0 0, .slice none 0 0, .slice none 0 0, .slice none 0 0, .slice none 0 0] :: L) a w) (fun (_ : Unit) _ _ => False) ?_ ?_ ?_ ?_
  · rintro ⟨y18, y21, y22, x24⟩ o42r hb44 a w ⟨v16, v19, hs23, he, hs⟩
    dsimp only [F6_L0] at hb44
    refine TC.use ?_ he hs
    refine TC.k ?_
    refine TC.region ?_
    refine TO.s rfl rfl rfl (StepS.cmp rfl rfl rfl) ?_
    refine TO.code ?_
    refine TC.k ?_
    refine TC.cond rfl (fun hc45 => ?_) (fun hc45 => ?_)
    · replace hb44 := cond_t hc45 hb44
      refine TC.skipk ?_
      refine TC.k ?_
      refine TC.block ?_
      refine TC.k ?_
      refine TC.region ?_
      obtain ⟨x46, hx47, hb44⟩ := bind_some hb44
      refine TO.s rfl rfl rfl (StepS.idx rfl rfl e1.tl.tl.tl.tl.tl.tl ksliceB_22_45_4_true (idx_spec hx47).1 (idxm_lt hx47)) ?_
      refine TO.s rfl rfl rfl (StepS.ldE rfl e1.tl.tl.tl.tl.tl.tl kaggB_45_4_true rfl (idxm hx47)) ?_
      refine TO.alloc kinfo_45_bind_zero_some_agg_I_0_I_0_I_0_I_0 rfl rfl fun b48 => ?_
      refine TO.stB (us := [I x46.1, I x46.2.1, I x46.2.2.1, I x46.2.2.2]) 0 [I x46.1, I x46.2.1, I x46.2.2.1, I x46.2.2.2] rfl rfl rfl ksizeB_45_4_true rfl rfl rfl (by simp [Value.oneCell']) rfl ?_
      refine TO.code ?_
      refine TC.region_any (Bx b48 45 [I x46.1, I x46.2.1, I x46.2.2.1, I x46.2.2.2] :: Bx b15 27 [v16, .slice none 0 0, .slice none 0 0, .slice none 0 0, .slice none 0 0] :: Bx b6 27 [.slice none 0 0, .slice none 0 0, .slice none 0 0, .slice none 0 0, .slice none 0 0] :: L) 8 9 kfollows_mixedOrders_true rfl ?_
      refine TA.takeW 0 rfl rfl rfl rfl (StepS.fld rfl kfieldB_27_0_0_true) (by kernel_rfl) (by kernel_rfl) (by kernel_rfl) rfl (.inr (fun _ s => Sat.by [6, 4, 2] 3 4 (by kernel_rfl) s)) ?_
      refine TA.take 1 rfl rfl rfl rfl (StepS.ldB rfl (Ent.at 1 rfl) kscalB_23_true rfl) (by kernel_rfl) (by kernel_rfl) (by kernel_rfl) (by kernel_rfl) (by kernel_rfl) (fun _ s => Sat.by [6, 4, 2] 3 4 (by kernel_rfl) s) ?_
      refine TA.takeW 2 rfl rfl rfl rfl (StepS.move rfl) (by kernel_rfl) (by kernel_rfl) (by kernel_rfl) rfl (.inr (fun _ s => Sat.by [6, 4, 2] 3 4 (by kernel_rfl) s)) ?_
      refine TA.take 3 rfl rfl rfl rfl (StepS.ldBA rfl (Ent.at 0 rfl) kaggB_45_4_true rfl rfl) (by kernel_rfl) (by kernel_rfl) (by kernel_rfl) (by kernel_rfl) (by kernel_rfl) (fun _ s => Sat.by [6, 4, 2] 3 4 (by kernel_rfl) s) ?_
      refine TA.all1 (i := 4) (by kernel_rfl) ?_
      refine TB.of rfl ?_
      refine TO.ghost (fun _ s => Sat.front 2 rfl s) ?_
      refine TO.ghost (fun _ s => Sat.front 5 rfl s) ?_
      refine TO.ghost (fun _ s => Sat.front 5 rfl s) ?_
      obtain ⟨⟨rq49_4_1, rq49_4_2⟩, hcq49_4_3, hb44⟩ := bind_some hb44
      refine TO.callO kcallB_16_true rfl rfl rfl (fun _ st => C16 (a0 := (y22, y21))  hcq49_4_3 st) ?_
      rintro _ _ ⟨hsq49_4_4, vq49_4_6, rfl, rfl⟩
      refine TA.back (.inr (fun _ s => Sat.by [6, 6, 5] 3 4 (by kernel_rfl) s)) ?_
      refine TA.asL (L' := (Bx b14 59 [v9, vq49_4_6] :: SN 61 8 nT61 v9 hsq49_4_4 (rq49_4_2.1) :: OwnS 79 2 vq49_4_6 (rq49_4_2.2.map cTii) :: Bx b48 45 [I x46.1, I x46.2.1, I x46.2.2.1, I x46.2.2.2] :: OwnS 28 1 v16 (y18.map cI) :: Bx b15 27 [v16, .slice none 0 0, .slice none 0 0, .slice none 0 0, .slice none 0 0] :: Bx b6 27 [.slice none 0 0, .slice none 0 0, .slice none 0 0, .slice none 0 0, .slice none 0 0] :: L)) (listed' := #[true, true, true, true, true, false, false, false, false]) (by kernel_rfl) (by kernel_rfl) ?_
      refine TA.all1 (i := 5) (by kernel_rfl) ?_
      refine TB.of rfl ?_
      refine TO.litS (f := cI) ([rq49_4_1] : List Int) kelemB_23_28_1_8_true kinfo_28_bind_zero_some_I_0 rfl rfl (fun _ => rfl) rfl rfl (by kernel_rfl) rfl fun vq49_5_1 => ?_
      refine TA.back (.inr (fun _ s => Sat.by [7, 7, 6] 3 5 (by kernel_rfl) s)) ?_
      refine TA.asL (L' := (OwnS 28 1 vq49_5_1 (([rq49_4_1] : List Int).map cI) :: Bx b14 59 [v9, vq49_4_6] :: SN 61 8 nT61 v9 hsq49_4_4 (rq49_4_2.1) :: OwnS 79 2 vq49_4_6 (rq49_4_2.2.map cTii) :: Bx b48 45 [I x46.1, I x46.2.1, I x46.2.2.1, I x46.2.2.2] :: OwnS 28 1 v16 (y18.map cI) :: Bx b15 27 [v16, .slice none 0 0, .slice none 0 0, .slice none 0 0, .slice none 0 0] :: Bx b6 27 [.slice none 0 0, .slice none 0 0, .slice none 0 0, .slice none 0 0, .slice none 0 0] :: L)) (listed' := #[true, true, true, true, true, true, false, false, false]) (by kernel_rfl) (by kernel_rfl) ?_
      refine TA.all1 (i := 6) (by kernel_rfl) ?_
      refine TB.of rfl ?_
      obtain ⟨yq49_6_1, hkq49_6_2, hb44⟩ := bind_some hb44
      refine TO.app (k := 5) (f := cI) kelemB_23_28_1_8_true (by decide) rfl rfl rfl (OwnS.rd (Ent.at 0 rfl)) hkq49_6_2 (fun x c hc => by simp [Value.oneCell'] at hc ⊢; first | (obtain rfl := hc; rfl) | (rcases hc with rfl <;> rfl)) rfl rfl fun vq49_6_3 => ?_
      refine TA.back (.inr (fun _ s => Sat.by [7, 7, 6] 3 5 (by kernel_rfl) s)) ?_
      refine TA.asL (L' := (OwnS 28 1 vq49_5_1 (([rq49_4_1] : List Int).map cI) :: Bx b14 59 [v9, vq49_4_6] :: SN 61 8 nT61 v9 hsq49_4_4 (rq49_4_2.1) :: OwnS 79 2 vq49_4_6 (rq49_4_2.2.map cTii) :: Bx b48 45 [I x46.1, I x46.2.1, I x46.2.2.1, I x46.2.2.2] :: OwnS 28 1 vq49_6_3 (yq49_6_1.map cI) :: Bx b15 27 [v16, .slice none 0 0, .slice none 0 0, .slice none 0 0, .slice none 0 0] :: Bx b6 27 [.slice none 0 0, .slice none 0 0, .slice none 0 0, .slice none 0 0, .slice none 0 0] :: L)) (listed' := #[true, true, true, true, true, true, true, false, false]) (by kernel_rfl) (by kernel_rfl) ?_
      refine TA.takeW 7 rfl rfl rfl rfl (StepS.fld rfl kfieldB_27_0_0_true) (by kernel_rfl) (by kernel_rfl) (by kernel_rfl) rfl (.inr (fun _ s => Sat.by [7, 7, 6] 3 5 (by kernel_rfl) s)) ?_
      refine TA.all1 (i := 8) (by kernel_rfl) ?_
      refine TB.of rfl ?_
      refine TO.pure (fun _ s => Rd.one (OwnS.rd (Ent.at 5 rfl)) s) fun ocq49_8_1 => ?_
      refine TO.stB (us := [vq49_6_3]) 6 [vq49_6_3, .slice none 0 0, .slice none 0 0, .slice none 0 0, .slice none 0 0] rfl rfl rfl ksizeB_23_1_true ocq49_8_1.2 rfl rfl (by intro u hu; simp only [List.mem_cons, List.not_mem_nil, or_false] at hu; rcases hu with rfl <;> first | exact ocq49_8_1.1 | rfl) rfl ?_
      refine TA.back (.inl (by kernel_rfl)) ?_
      refine TA.asL (L' := (OwnS 28 1 vq49_5_1 (([rq49_4_1] : List Int).map cI) :: Bx b14 59 [v9, vq49_4_6] :: SN 61 8 nT61 v9 hsq49_4_4 (rq49_4_2.1) :: OwnS 79 2 vq49_4_6 (rq49_4_2.2.map cTii) :: Bx b48 45 [I x46.1, I x46.2.1, I x46.2.2.1, I x46.2.2.2] :: OwnS 28 1 vq49_6_3 (yq49_6_1.map cI) :: Bx b15 27 [vq49_6_3, .slice none 0 0, .slice none 0 0, .slice none 0 0, .slice none 0 0] :: Bx b6 27 [.slice none 0 0, .slice none 0 0, .slice none 0 0, .slice none 0 0, .slice none 0 0] :: L)) (listed' := #[true, true, true, true, true, true, true, true, true]) (by kernel_rfl) (by kernel_rfl) ?_
      refine TA.code (by kernel_rfl) ?_
      refine TC.region ?_
      refine TO.s rfl rfl rfl (StepS.ari rfl rfl rfl) ?_
      refine TO.s rfl rfl rfl (StepS.move rfl) ?_
      cases hb44
      refine TO.nil fun a w e s => ?_
      exact ⟨vq49_6_3, vq49_4_6, hsq49_4_4, e.sub (lk_of_allIn ⟨rfl, rfl, rfl, rfl, rfl, rfl, trivial⟩), s.mono fun _ s => (by exact Sat.by [7, 3, 3, 7, 5, 7] 6 2 (by kernel_rfl) s)⟩
    · replace hb44 := cond_f hc45 hb44
      cases hb44
      refine TC.exit rfl fun a w e s => ?_
      exact ⟨v16, v19, hs23, e.sub (lk_of_allIn ⟨rfl, rfl, rfl, trivial⟩), s⟩
  · exact fun a w e s => ⟨.slice none 0 0, v12, hs10, e.sub (lk_of_allIn ⟨rfl, rfl, rfl, rfl, rfl, rfl, trivial⟩), s.mono fun _ s => (by replace s := Sat.nilS (e := 28) (sz := 1) (f := cI) s; exact Sat.by [5, 4, 4, 4, 5, 5] 6 0 (by kernel_rfl) s)⟩
  · rintro ⟨y36, y39, y40⟩ rfl a w ⟨v34, v37, hs41, he, hs⟩
    dsimp only [Ctl.on] at hm
    refine TC.use ?_ he hs
    refine TC.k ?_
    refine TC.k ?_
    refine TC.region ?_
    refine TO.s rfl rfl rfl (StepS.move rfl) ?_
    refine TO.s rfl rfl rfl (StepS.nilc rfl) ?_
    refine TO.s rfl rfl rfl (StepS.fld rfl kfieldB_59_0_0_true) ?_
    refine TO.s rfl rfl rfl (StepS.ldB rfl (Ent.at 3 rfl) kscalB_56_true rfl) ?_
    refine TO.s rfl rfl rfl (StepS.lenN rfl (Ent.at 4 rfl) ksliceB_56_61_8_true rfl) ?_
    refine TO.s rfl rfl rfl (StepS.move rfl) ?_
    refine TO.code ?_
    refine TC.ghost (L' := (SN 61 8 nT61m v9 hs41 ((y40.map upT61)) :: OwnS 28 1 v34 (y36.map cI) :: OwnS 79 2 v37 (y39.map cTii) :: Bx b15 27 [v34, .slice none 0 0, .slice none 0 0, .slice none 0 0, .slice none 0 0] :: Bx b14 59 [v9, v37] :: Bx b6 27 [.slice none 0 0, .slice none 0 0, .slice none 0 0, .slice none 0 0, .slice none 0 0] :: L)) (fun _ s => Sat.asN (T' := nT61m) (φ := upT61) (fun _ _ => rfl) (fun _ _ => rfl) (Sat.front 4 rfl s)) ?_
    obtain ⟨o94, hw95, hm⟩ := bind_some hm
    refine TC.loop hw95 (fun (y52, y55, y59, y62, y63, x64) => fun a w => ∃ v50 : Value, ∃ v53 : Value, ∃ v56 : Value, ∃ hs57 : List Value, ∃ v60 : Value, Mid 68 B [(4, .pointer (some ⟨b6, 0, none⟩)), (6, .pointer (some ⟨b15, 0, none⟩)), (32, v9), (33, I (y40.length : Int)), (34, I x64)] (OwnS 3 1 v50 (y52.map cI) :: OwnS 3 1 v53 (y55.map cI) :: SS 36 52 2 cTii v56 hs57 (y59) :: OwnS 3 1 v60 (y62.map cI) :: SN 61 8 nT61m v9 hs41 (y63) :: OwnS 28 1 v34 (y36.map cI) :: OwnS 79 2 v37 (y39.map cTii) :: Bx b15 27 [v34, v50, v53, v56, v60] :: Bx b14 59 [v9, v37] :: Bx b6 27 [.slice none 0 0, .slice none 0 0, .slice none 0 0, .slice none 0 0, .slice none 0 0] :: L) a w) (fun (y82, y85, y89, y92, y93) => fun a w => ∃ v80 : Value, ∃ v83 : Value, ∃ v86 : Value, ∃ hs87 : List Value, ∃ v90 : Value, Mid 68 B [(4, .pointer (some ⟨b6, 0, none⟩)), (6, .pointer (some ⟨b15, 0, none⟩))] (OwnS 3 1 v80 (y82.map cI) :: OwnS 3 1 v83 (y85.map cI) :: SS 36 52 2 cTii v86 hs87 (y89) :: OwnS 3 1 v90 (y92.map cI) :: SN 61 8 nT61m v9 hs41 (y93) :: OwnS 28 1 v34 (y36.map cI) :: OwnS 79 2 v37 (y39.map cTii) :: Bx b15 27 [v34, v80, v83, v86, v90] :: Bx b14 59 [v9, v37] :: Bx b6 27 [.slice none 0 0, .slice none 0 0, .slice none 0 0, .slice none 0 0, .slice none 0 0] :: L) a w) (fun (_ : Unit) _ _ => False) ?_ ?_ ?_ ?_
    · rintro ⟨y52, y55, y59, y62, y63, x64⟩ o94r hb96 a w ⟨v50, v53, v56, hs57, v60, he, hs⟩
      dsimp only [F6_L1] at hb96
      refine TC.use ?_ he hs
      refine TC.k ?_
      refine TC.region ?_
      refine TO.s rfl rfl rfl (StepS.cmp rfl rfl rfl) ?_
      refine TO.code ?_
      refine TC.k ?_
      refine TC.cond rfl (fun hc97 => ?_) (fun hc97 => ?_)
      · replace hb96 := cond_t hc97 hb96
        refine TC.skipk ?_
        refine TC.k ?_
        refine TC.block ?_
        refine TC.k ?_
        refine TC.region ?_
        obtain ⟨x98, hx99, hb96⟩ := bind_some hb96
        refine TO.s rfl rfl rfl (StepS.idxN rfl rfl (Ent.at 4 rfl) ksliceB_56_61_8_true hx99) ?_
        obtain ⟨l100, hl101, hb96⟩ := bind_some hb96
        refine TO.s rfl rfl rfl (StepS.ldNE (cs := [I x98.1, I x98.2.1, I x98.2.2.1, (cv (gr hs41 x64.toNat) 0), (cv (gr hs41 x64.toNat) 1), I x98.2.2.2.2.2.1, (cv (gr hs41 x64.toNat) 2), (cv (gr hs41 x64.toNat) 3)]) rfl (Ent.at 4 rfl) kaggB_61_8_true hx99 rfl rfl) ?_
        refine TO.alloc kinfo_61_bind_zero_some_agg_I_0_I_0_I_0_slice_none_0_0_slice_none_0_0_I_0_slice_none_0_0_slice_none_0_0 rfl rfl fun b102 => ?_
        refine TO.pure (fun _ s => Rd.one (OwnS.rd (SN.piece (Ent.at 5 rfl) hx99 0 rfl)) s) fun oc103 => ?_
        refine TO.pure (fun _ s => Rd.one (OwnS.rd (SN.pieceM (Ent.at 5 rfl) hx99 1 rfl hl101)) s) fun oc104 => ?_
        refine TO.pure (fun _ s => Rd.one (OwnS.rd (SN.piece (Ent.at 5 rfl) hx99 2 rfl)) s) fun oc105 => ?_
        refine TO.pure (fun _ s => Rd.one (OwnS.rd (SN.piece (Ent.at 5 rfl) hx99 3 rfl)) s) fun oc106 => ?_
        refine TO.stB (us := [I x98.1, I x98.2.1, I x98.2.2.1, (cv (gr hs41 x64.toNat) 0), (cv (gr hs41 x64.toNat) 1), I x98.2.2.2.2.2.1, (cv (gr hs41 x64.toNat) 2), (cv (gr hs41 x64.toNat) 3)]) 0 [I x98.1, I x98.2.1, I x98.2.2.1, (cv (gr hs41 x64.toNat) 0), (cv (gr hs41 x64.toNat) 1), I x98.2.2.2.2.2.1, (cv (gr hs41 x64.toNat) 2), (cv (gr hs41 x64.toNat) 3)] rfl rfl rfl ksizeB_61_8_true rfl rfl rfl (by intro u hu; simp only [List.mem_cons, List.not_mem_nil, or_false] at hu; rcases hu with rfl | rfl | rfl | rfl | rfl | rfl | rfl | rfl <;> first | exact oc103.1 | exact oc104.1 | exact oc105.1 | exact oc106.1 | rfl) rfl ?_
        refine TO.code ?_
        refine TC.k ?_
        refine TC.region ?_
        refine TO.s rfl rfl rfl (StepS.fld rfl kfieldB_27_1_1_true) ?_
        refine TO.s rfl rfl rfl (StepS.ldB rfl (Ent.at 8 rfl) kscalB_24_true rfl) ?_
        refine TO.s rfl rfl rfl (StepS.fld rfl kfieldB_61_0_0_true) ?_
        refine TO.s rfl rfl rfl (StepS.ldB rfl (Ent.at 0 rfl) kscalB_3_true rfl) ?_
        refine TO.litS (f := cI) ([x98.1] : List Int) kelemB_24_3_1_8_true kinfo_3_bind_zero_some_I_0 rfl rfl (fun _ => rfl) rfl rfl (by kernel_rfl) rfl fun v107 => ?_
        obtain ⟨y109, hk110, hb96⟩ := bind_some hb96
        refine TO.app (k := 2) (f := cI) kelemB_24_3_1_8_true (by decide) rfl rfl rfl (OwnS.rd (Ent.at 0 rfl)) hk110 (fun x c hc => by simp [Value.oneCell'] at hc ⊢; first | (obtain rfl := hc; rfl) | (rcases hc with rfl <;> rfl)) rfl rfl fun v111 => ?_
        refine TO.s rfl rfl rfl (StepS.fld rfl kfieldB_27_1_1_true) ?_
        refine TO.pure (fun _ s => Rd.one (OwnS.rd (Ent.at 2 rfl)) s) fun oc112 => ?_
        refine TO.stB (us := [v111]) 9 [v34, v111, v53, v56, v60] rfl rfl rfl ksizeB_24_1_true oc112.2 rfl rfl (by intro u hu; simp only [List.mem_cons, List.not_mem_nil, or_false] at hu; rcases hu with rfl <;> first | exact oc112.1 | rfl) rfl ?_
        refine TO.code ?_
        refine TC.k ?_
        refine TC.region ?_
        refine TO.s rfl rfl rfl (StepS.fld rfl kfieldB_27_2_2_true) ?_
        refine TO.s rfl rfl rfl (StepS.ldB rfl (Ent.at 9 rfl) kscalB_24_true rfl) ?_
        refine TO.s rfl rfl rfl (StepS.fld rfl kfieldB_61_1_1_true) ?_
        refine TO.s rfl rfl rfl (StepS.ldB rfl (Ent.at 1 rfl) kscalB_3_true rfl) ?_
        refine TO.litS (f := cI) ([x98.2.1] : List Int) kelemB_24_3_1_8_true kinfo_3_bind_zero_some_I_0 rfl rfl (fun _ => rfl) rfl rfl (by kernel_rfl) rfl fun v113 => ?_
        obtain ⟨y115, hk116, hb96⟩ := bind_some hb96
        refine TO.app (k := 4) (f := cI) kelemB_24_3_1_8_true (by decide) rfl rfl rfl (OwnS.rd (Ent.at 0 rfl)) hk116 (fun x c hc => by simp [Value.oneCell'] at hc ⊢; first | (obtain rfl := hc; rfl) | (rcases hc with rfl <;> rfl)) rfl rfl fun v117 => ?_
        refine TO.s rfl rfl rfl (StepS.fld rfl kfieldB_27_2_2_true) ?_
        refine TO.pure (fun _ s => Rd.one (OwnS.rd (Ent.at 4 rfl)) s) fun oc118 => ?_
        refine TO.stB (us := [v117]) 10 [v34, v111, v117, v56, v60] rfl rfl rfl ksizeB_24_1_true oc118.2 rfl rfl (by intro u hu; simp only [List.mem_cons, List.not_mem_nil, or_false] at hu; rcases hu with rfl <;> first | exact oc118.1 | rfl) rfl ?_
        refine TO.code ?_
        refine TC.k ?_
        refine TC.region ?_
        refine TO.s rfl rfl rfl (StepS.fld rfl kfieldB_27_3_3_true) ?_
        refine TO.s rfl rfl rfl (StepS.ldB rfl (Ent.at 10 rfl) kscalB_25_true rfl) ?_
        refine TO.s rfl rfl rfl (StepS.fld rfl kfieldB_61_4_4_true) ?_
        refine TO.s rfl rfl rfl (StepS.ldB rfl (Ent.at 2 rfl) kscalB_36_true rfl) ?_
        refine TO.ghost (fun _ s => Sat.front 7 rfl s) ?_
        refine TO.ghost (fun _ s => Sat.takeM (y := (x98.1, x98.2.1, x98.2.2.1, x98.2.2.2.1, none, x98.2.2.2.2.2.1, x98.2.2.2.2.2.2.1, x98.2.2.2.2.2.2.2)) 1 hx99 rfl hl101 rfl rfl s) ?_
        refine TO.lit1H rfl (OwnS.rd (Ent.at 0 rfl)) kelemB_25_36_1_24_true rfl fun v119 => ?_
        refine TO.ghost (fun _ s => Sat.front 8 rfl s) ?_
        refine TO.ghost (fun _ s => Sat.front 2 rfl s) ?_
        obtain ⟨y123, hk124, hb96⟩ := bind_some hb96
        refine TO.appSS (row := l100) rfl kelemB_25_36_1_24_true rfl rfl (OwnS.rd (Ent.at 0 rfl)) hk124 rfl rfl fun v125 hs126 => ?_
        refine TO.ghost (fun _ s => Sat.erase 1 s) ?_
        refine TO.s rfl rfl rfl (StepS.fld rfl kfieldB_27_3_3_true) ?_
        refine TO.pure (fun _ s => Rd.one (RR.top (SS.rr (Ent.at 0 rfl))) s) fun oc127 => ?_
        refine TO.stB (us := [v125]) 10 [v34, v111, v117, v125, v60] rfl rfl rfl ksizeB_25_1_true oc127.2 rfl rfl (by intro u hu; simp only [List.mem_cons, List.not_mem_nil, or_false] at hu; rcases hu with rfl <;> first | exact oc127.1 | rfl) rfl ?_
        refine TO.code ?_
        refine TC.region ?_
        refine TO.s rfl rfl rfl (StepS.fld rfl kfieldB_27_4_4_true) ?_
        refine TO.s rfl rfl rfl (StepS.ldB rfl (Ent.at 10 rfl) kscalB_24_true rfl) ?_
        refine TO.s rfl rfl rfl (StepS.fld rfl kfieldB_61_5_5_true) ?_
        refine TO.s rfl rfl rfl (StepS.ldB rfl (Ent.at 4 rfl) kscalB_3_true rfl) ?_
        refine TO.litS (f := cI) ([x98.2.2.2.2.2.1] : List Int) kelemB_24_3_1_8_true kinfo_3_bind_zero_some_I_0 rfl rfl (fun _ => rfl) rfl rfl (by kernel_rfl) rfl fun v128 => ?_
        obtain ⟨y130, hk131, hb96⟩ := bind_some hb96
        refine TO.app (k := 8) (f := cI) kelemB_24_3_1_8_true (by decide) rfl rfl rfl (OwnS.rd (Ent.at 0 rfl)) hk131 (fun x c hc => by simp [Value.oneCell'] at hc ⊢; first | (obtain rfl := hc; rfl) | (rcases hc with rfl <;> rfl)) rfl rfl fun v132 => ?_
        refine TO.s rfl rfl rfl (StepS.fld rfl kfieldB_27_4_4_true) ?_
        refine TO.pure (fun _ s => Rd.one (OwnS.rd (Ent.at 8 rfl)) s) fun oc133 => ?_
        refine TO.stB (us := [v132]) 11 [v34, v111, v117, v125, v132] rfl rfl rfl ksizeB_24_1_true oc133.2 rfl rfl (by intro u hu; simp only [List.mem_cons, List.not_mem_nil, or_false] at hu; rcases hu with rfl <;> first | exact oc133.1 | rfl) rfl ?_
        refine TO.code ?_
        refine TC.region ?_
        refine TO.s rfl rfl rfl (StepS.ari rfl rfl rfl) ?_
        refine TO.s rfl rfl rfl (StepS.move rfl) ?_
        cases hb96
        refine TO.nil fun a w e s => ?_
        exact ⟨v111, v117, v125, hs126, v132, e.sub (lk_of_allIn ⟨rfl, rfl, rfl, rfl, rfl, trivial⟩), s.mono fun _ s => (by exact Sat.by [13, 13, 13, 13, 13, 7, 13, 8, 13, 13] 10 4 (by kernel_rfl) s)⟩
      · replace hb96 := cond_f hc97 hb96
        cases hb96
        refine TC.exit rfl fun a w e s => ?_
        exact ⟨v50, v53, v56, hs57, v60, e.sub (lk_of_allIn ⟨rfl, rfl, trivial⟩), s⟩
    · exact fun a w e s => ⟨.slice none 0 0, .slice none 0 0, .slice none 0 0, [], .slice none 0 0, e.sub (lk_of_allIn ⟨rfl, rfl, rfl, rfl, rfl, trivial⟩), s.mono fun _ s => (by replace s := Sat.nilS (e := 3) (sz := 1) (f := cI) s; replace s := Sat.nilSS (e := 36) (ee := 52) (sz := 2) (f := cTii) s; replace s := Sat.nilS (e := 3) (sz := 1) (f := cI) s; replace s := Sat.nilS (e := 3) (sz := 1) (f := cI) s; exact Sat.by [9, 9, 9, 9, 9, 9, 9, 9, 9, 9] 10 0 (by kernel_rfl) s)⟩
    · rintro ⟨y82, y85, y89, y92, y93⟩ rfl a w ⟨v80, v83, v86, hs87, v90, he, hs⟩
      dsimp only [Ctl.on] at hm
      refine TC.use ?_ he hs
      refine TC.k ?_
      refine TC.region ?_
      refine TO.s rfl rfl rfl (StepS.ldBA rfl (Ent.at 7 rfl) kaggB_27_5_true rfl rfl) ?_
      refine TO.pure (fun _ s => Rd.one (OwnS.rd (Ent.at 5 rfl)) s) fun oc134 => ?_
      refine TO.pure (fun _ s => Rd.one (OwnS.rd (Ent.at 0 rfl)) s) fun oc135 => ?_
      refine TO.pure (fun _ s => Rd.one (OwnS.rd (Ent.at 1 rfl)) s) fun oc136 => ?_
      refine TO.pure (fun _ s => Rd.one (RR.top (SS.rr (Ent.at 2 rfl))) s) fun oc137 => ?_
      refine TO.pure (fun _ s => Rd.one (OwnS.rd (Ent.at 3 rfl)) s) fun oc138 => ?_
      refine TO.stB (us := [v34, v80, v83, v86, v90]) 9 [v34, v80, v83, v86, v90] rfl rfl rfl ksizeB_27_5_true rfl rfl rfl (by intro u hu; simp only [List.mem_cons, List.not_mem_nil, or_false] at hu; rcases hu with rfl | rfl | rfl | rfl | rfl <;> first | exact oc134.1 | exact oc135.1 | exact oc136.1 | exact oc137.1 | exact oc138.1 | rfl) rfl ?_
      refine TO.code ?_
      cases hm
      refine TC.ret fun a w e s => ?_
      refine FRet.cell1 (P := Try.prog) (fn := Try.f6) e s rfl rfl (Ent.at 9 rfl) kaggB_27_5_true rfl ?_
      refine ⟨_, _, rfl, ⟨(v34), (v80), (v83), (v86), (hs87), (v90), rfl, rfl⟩, ?_⟩
      refine s.mono fun _ s => ?_
      exact Sat.by [3, 3, 3, 3, 5] 5 5 (by kernel_rfl) s
    · rintro r rfl
      exact fun a w h => h.elim
  · rintro r rfl
    exact fun a w h => h.elim
end Go.Proofs.Ytacggcanjanmkaa
