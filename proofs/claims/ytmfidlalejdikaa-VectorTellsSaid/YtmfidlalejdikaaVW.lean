/-
  The walks: each Go function returns what its model says. Written by a program (gen.py).
-/
import Derived.Test.YtmfidlalejdikaaProg
import Derived.KernelRfl
import Derived.Test.YtmfidlalejdikaaAW
import Derived.Test.YtmfidlalejdikaaVM
namespace Go.Proofs.Ytmfidlalejdikaa
open Go Go.Bk
set_option linter.unusedVariables false
set_option linter.unnecessarySimpa false
theorem kcallB_43_true : callB Try.prog 43 = true := by kernel_rfl
theorem kelemB_43_34_1_24_true : elemB Try.prog 43 34 1 24 = true := by kernel_rfl
theorem kinfo_34_bind_zero_some_slice_none_0_0 : (Try.prog.info? 34).bind (·.zero) = some (.slice none 0 0) := by kernel_rfl
theorem ksliceB_43_34_1_true : sliceB Try.prog 43 34 1 = true := by kernel_rfl
theorem ksizeB_34_1_true : sizeB Try.prog 34 1 = true := by kernel_rfl
theorem kscalB_34_true : scalB Try.prog 34 = true := by kernel_rfl
theorem kmapGB_65_3_34_true : mapGB Try.prog 65 3 34 = true := by kernel_rfl
theorem kcallB_44_true : callB Try.prog 44 = true := by kernel_rfl
theorem kcallB_28_true : callB Try.prog 28 = true := by kernel_rfl
theorem kcallB_29_true : callB Try.prog 29 = true := by kernel_rfl
theorem kcallB_32_true : callB Try.prog 32 = true := by kernel_rfl

set_option maxRecDepth 100000 in
theorem C43 {B : World} {L : List HP} {a0 : List Int} {h0 : Value} {r0 : List Int} (e0 : Ent L (Rd 1 h0 (a0.map cI))) (hm : F43 a0 = some r0) {w : World} (st : St B L w) : Calls Try.prog 43 #[h0] w (fun e w' => ∃ v M, e = .returned v ∧ (∃ (qr0 : Value), v = qr0 ∧ M = (OwnS 3 1 qr0 (r0.map cI) :: L)) ∧ St B M w') := by
  refine calls_of (N := 8) (L := L) (args := [h0]) Try.func43 rfl rfl rfl ?_ st
  dsimp only [F43] at hm
  refine TC.k ?_
  refine TC.region ?_
  refine TO.s rfl rfl rfl (StepS.assign rfl) ?_
  refine TO.code ?_
  refine TC.k ?_
  refine TC.k ?_
  refine TC.region ?_
  refine TO.s rfl rfl rfl (StepS.move rfl) ?_
  refine TO.nilck rfl e0 ksliceB_34_3_1_true rfl fun b hb => ?_
  refine TO.code ?_
  refine TC.cond rfl (fun hc => ?_) (fun hc => ?_)
  · have hn : a0 = [] := by simpa using hb hc
    subst hn
    have hr : r0 = [] := by simpa using (appl_spec hm).2.2
    subst hr
    refine TC.k ?_
    refine TC.region ?_
    refine TO.s rfl rfl rfl (StepS.assign rfl) ?_
    refine TO.code ?_
    refine TC.ret fun a w e s => ?_
    refine FRet.mk1 (P := Try.prog) (fn := Try.f43) (t := 2) e rfl rfl ?_
    exact ⟨_, _, rfl, ⟨_, rfl, rfl⟩, s.mono fun _ s => Sat.nilS s⟩
  · refine TC.skipk ?_
    refine TC.k ?_
    refine TC.region ?_
    refine TO.lit0 (f := cI) ksliceB_34_3_1_true rfl fun v1 => ?_
    refine TO.s rfl rfl rfl (StepS.move rfl) ?_
    refine TO.app (k := 0) (f := cI) kelemB_34_3_1_8_true (by decide) rfl rfl rfl e0.tl hm (fun x c hc => by simp [Value.oneCell'] at hc ⊢; first | (obtain rfl := hc; rfl) | (rcases hc with rfl <;> rfl)) rfl rfl fun v2 => ?_
    refine TO.s rfl rfl rfl (StepS.assign rfl) ?_
    refine TO.code ?_
    refine TC.ret fun a w e s => ?_
    refine FRet.mk1 (P := Try.prog) (fn := Try.f43) (t := 2) e rfl rfl ?_
    exact ⟨_, _, rfl, ⟨_, rfl, rfl⟩, s⟩

set_option maxRecDepth 100000 in
theorem C44 {B : World} {L : List HP} {a0 : List Int} {a1 : List Int} {h0 : Value} {h1 : Value} {r0 : List Int} (e0 : Ent L (Rd 1 h0 (a0.map cI))) (e1 : Ent L (Rd 1 h1 (a1.map cI))) (hm : F44 a0 a1 = some r0) {w : World} (st : St B L w) : Calls Try.prog 44 #[h0, h1] w (fun e w' => ∃ v M, e = .returned v ∧ (∃ (qv1 : Value), v = qv1 ∧ M = (OwnS 3 1 qv1 (r0.map cI) :: L)) ∧ St B M w') := by
  refine calls_of (N := 28) (L := L) (args := [h0, h1]) Try.func44 rfl rfl rfl ?_ st
  dsimp only [F44] at hm
  refine TC.k ?_
  refine TC.region ?_
  refine TO.s rfl rfl rfl (StepS.assign rfl) ?_
  refine TO.code ?_
  refine TC.k ?_
  refine TC.region ?_
  refine TO.s rfl rfl rfl (StepS.move rfl) ?_
  obtain ⟨r2, hc3, hm⟩ := bind_some hm
  refine TO.callO kcallB_43_true rfl rfl rfl (fun _ st => C43 e0 hc3 st) ?_
  rintro v4 _ ⟨_, rfl, rfl⟩
  refine TO.s rfl rfl rfl (StepS.assign rfl) ?_
  refine TO.code ?_
  refine TC.k ?_
  refine TC.k ?_
  refine TC.region ?_
  refine TO.s rfl rfl rfl (StepS.move rfl) ?_
  refine TO.s rfl rfl rfl (StepS.lenm rfl e1.tl ksliceB_34_3_1_true rfl) ?_
  refine TO.s rfl rfl rfl (StepS.move rfl) ?_
  refine TO.code ?_
  obtain ⟨o11, hw12, hm⟩ := bind_some hm
  refine TC.loop hw12 (fun (y6, x7) => fun a w => Mid 28 B [(5, v4), (10, h1), (11, I (a1.length : Int)), (12, I x7)] (OwnS 3 1 v4 (y6.map cI) :: L) a w) (fun y10 => fun a w => Mid 28 B [(5, v4)] (OwnS 3 1 v4 (y10.map cI) :: L) a w) (fun (_ : Unit) _ _ => False) ?_ ?_ ?_ ?_
  · rintro ⟨y6, x7⟩ o11r hb13 a w ⟨he, hs⟩
    dsimp only [F44_L0] at hb13
    refine TC.use ?_ he hs
    refine TC.k ?_
    refine TC.region ?_
    refine TO.s rfl rfl rfl (StepS.cmp rfl rfl rfl) ?_
    refine TO.code ?_
    refine TC.k ?_
    refine TC.cond rfl (fun hc14 => ?_) (fun hc14 => ?_)
    · replace hb13 := cond_t hc14 hb13
      refine TC.skipk ?_
      refine TC.k ?_
      refine TC.block ?_
      refine TC.k ?_
      refine TC.region ?_
      refine TO.s rfl rfl rfl (StepS.move rfl) ?_
      obtain ⟨x15, hx16, hb13⟩ := bind_some hb13
      refine TO.s rfl rfl rfl (StepS.idx rfl rfl e1.tl ksliceB_34_3_1_true (idx_spec hx16).1 (idxm_lt hx16)) ?_
      refine TO.s rfl rfl rfl (StepS.ld0 rfl e1.tl kscalB_3_true rfl (idxm hx16) rfl) ?_
      refine TO.s rfl rfl rfl (StepS.assign rfl) ?_
      refine TO.s rfl rfl rfl (StepS.assign rfl) ?_
      refine TO.code ?_
      refine TC.region ?_
      refine TO.s rfl rfl rfl (StepS.move rfl) ?_
      refine TO.s rfl rfl rfl (StepS.move rfl) ?_
      refine TO.s rfl rfl rfl (StepS.move rfl) ?_
      refine TO.s rfl rfl rfl (StepS.move rfl) ?_
      obtain ⟨x17, hx18, hb13⟩ := bind_some hb13
      refine TO.s rfl rfl rfl (StepS.idx rfl rfl (OwnS.rd (Ent.at 0 rfl)) ksliceB_34_3_1_true (idx_spec hx18).1 (idxm_lt hx18)) ?_
      refine TO.s rfl rfl rfl (StepS.ld0 rfl (OwnS.rd (Ent.at 0 rfl)) kscalB_3_true rfl (idxm hx18) rfl) ?_
      refine TO.s rfl rfl rfl (StepS.move rfl) ?_
      refine TO.s rfl rfl rfl (StepS.max2 rfl rfl) ?_
      obtain ⟨x19, hx20, hb13⟩ := bind_some hb13
      refine TO.s rfl rfl rfl (StepS.idx rfl rfl (OwnS.rd (Ent.at 0 rfl)) ksliceB_34_3_1_true (idx_spec hx20).1 (idxm_lt hx20)) ?_
      refine TO.stO (i := x7.toNat) (off := 0) (us := [I (mx x17 x15)]) 0 (mx x17 x15) rfl rfl rfl ksizeB_3_1_true rfl rfl rfl (idx_spec hx20).2 rfl (by simp [Value.oneCell']) rfl ?_
      refine TO.code ?_
      refine TC.region ?_
      refine TO.s rfl rfl rfl (StepS.ari rfl rfl rfl) ?_
      refine TO.s rfl rfl rfl (StepS.move rfl) ?_
      cases hb13
      refine TO.nil fun a w e s => ?_
      exact ⟨e.sub (lk_of_allIn ⟨rfl, rfl, rfl, rfl, trivial⟩), s⟩
    · replace hb13 := cond_f hc14 hb13
      cases hb13
      refine TC.exit rfl fun a w e s => ?_
      exact ⟨e.sub (lk_of_allIn ⟨rfl, trivial⟩), s⟩
  · exact fun a w e s => ⟨e.sub (lk_of_allIn ⟨rfl, rfl, rfl, rfl, trivial⟩), s⟩
  · rintro y10 rfl a w ⟨he, hs⟩
    dsimp only [Ctl.on] at hm
    refine TC.use ?_ he hs
    refine TC.k ?_
    refine TC.region ?_
    refine TO.s rfl rfl rfl (StepS.move rfl) ?_
    refine TO.s rfl rfl rfl (StepS.assign rfl) ?_
    refine TO.code ?_
    cases hm
    refine TC.ret fun a w e s => ?_
    refine FRet.mk1 (P := Try.prog) (fn := Try.f44) (t := 4) e rfl rfl ?_
    refine ⟨_, _, rfl, ⟨(v4), rfl, rfl⟩, ?_⟩
    refine s.mono fun _ s => ?_
    replace s := Sat.front 0 rfl s
    exact s
  · rintro r rfl
    exact fun a w h => h.elim

set_option maxRecDepth 100000 in
theorem C28 {B : World} {L : List HP} {a0 : Int} {a1 : List (Int × Int × Int)} {h1 : Value} {r0 : List (List Int)} {r1 : Int} (e1 : Ent L (Rd 3 h1 (a1.map cTiii))) (hm : F28 a0 a1 = some (r0, r1)) {w : World} (st : St B L w) : Calls Try.prog 28 #[I a0, h1] w (fun e w' => ∃ v M, e = .returned v ∧ (∃ (qv1 : Value) (qhs2 : List Value), v = .tuple #[qv1, I r1] ∧ M = (SS 34 3 1 cI qv1 qhs2 (r0) :: L)) ∧ St B M w') := by
  refine calls_of (N := 81) (L := L) (args := [I a0, h1]) Try.func28 rfl rfl rfl ?_ st
  dsimp only [F28] at hm
  refine TC.k ?_
  refine TC.region ?_
  refine TO.s rfl rfl rfl (StepS.assign rfl) ?_
  refine TO.s rfl rfl rfl (StepS.assign rfl) ?_
  refine TO.code ?_
  refine TC.k ?_
  refine TC.k ?_
  refine TC.region ?_
  refine TO.s rfl rfl rfl (StepS.move rfl) ?_
  refine TO.s rfl rfl rfl (StepS.move rfl) ?_
  obtain ⟨r2, hc3, hm⟩ := bind_some hm
  refine TO.q rfl rfl rfl (StepQ.call kcallB_15_true rfl rfl (fun _ st => C15 e1 hc3 st)) ?_
  refine TO.s rfl rfl rfl (StepS.assign rfl) ?_
  refine TO.code ?_
  refine TC.k ?_
  refine TC.region ?_
  refine TO.s rfl rfl rfl (StepS.move rfl) ?_
  refine TO.s rfl rfl rfl (StepS.cmp rfl rfl rfl) ?_
  refine TO.code ?_
  refine TC.cond rfl (fun hc4 => ?_) (fun hc4 => ?_)
  · replace hm := cond_t hc4 hm
    refine TC.k ?_
    refine TC.region ?_
    refine TO.s rfl rfl rfl (StepS.move rfl) ?_
    refine TO.s rfl rfl rfl (StepS.assign rfl) ?_
    refine TO.s rfl rfl rfl (StepS.assign rfl) ?_
    refine TO.code ?_
    cases hm
    refine TC.ret fun a w e s => ?_
    refine FRet.mk2 (P := Try.prog) (fn := Try.f28) (t := 4) (u := 5) e rfl rfl rfl ?_
    refine ⟨_, _, rfl, ⟨(.slice none 0 0), ([]), rfl, rfl⟩, ?_⟩
    refine s.mono fun _ s => ?_
    replace s := Sat.nilSS (e := 34) (ee := 3) (sz := 1) (f := cI) s
    exact s
  · replace hm := cond_f hc4 hm
    refine TC.skipk ?_
    refine TC.k ?_
    refine TC.region ?_
    refine TO.s rfl rfl rfl (StepS.move rfl) ?_
    refine TO.ghost (fun _ s => Sat.nilZ (e := 3) (sz := 1) (f := cI) s) ?_
    obtain ⟨y6, hk7, hm⟩ := bind_some hm
    refine TO.mkSF (zs := ([] : List (Value × List Int))) kelemB_43_34_1_24_true kinfo_34_bind_zero_some_slice_none_0_0 rfl rfl hk7 rfl fun v8 hs9 => ?_
    refine TO.s rfl rfl rfl (StepS.assign rfl) ?_
    refine TO.code ?_
    refine TC.k ?_
    refine TC.k ?_
    refine TC.region ?_
    refine TO.s rfl rfl rfl (StepS.move rfl) ?_
    refine TO.s rfl rfl rfl (StepS.lenRR rfl (SF.rr (Ent.at 0 rfl) (Ent.at 1 rfl)) ksliceB_43_34_1_true rfl) ?_
    refine TO.s rfl rfl rfl (StepS.move rfl) ?_
    refine TO.code ?_
    obtain ⟨o22, hw23, hm⟩ := bind_some hm
    refine TC.loop hw23 (fun (y11, x14) => fun a w => ∃ hs12 : List Value, ∃ zs13 : List (Value × List Int), Mid 81 B [(0, I a0), (1, h1), (7, v8), (23, I (y6.length : Int)), (24, I x14)] (SF 34 v8 hs12 (y11) zs13 :: FZ 3 1 cI zs13 :: L) a w) (fun y19 => fun a w => ∃ hs20 : List Value, ∃ zs21 : List (Value × List Int), Mid 81 B [(1, h1), (7, v8)] (SF 34 v8 hs20 (y19) zs21 :: FZ 3 1 cI zs21 :: L) a w) (fun (_ : Unit) _ _ => False) ?_ ?_ ?_ ?_
    · rintro ⟨y11, x14⟩ o22r hb24 a w ⟨hs12, zs13, he, hs⟩
      dsimp only [F28_L0] at hb24
      refine TC.use ?_ he hs
      refine TC.k ?_
      refine TC.region ?_
      refine TO.s rfl rfl rfl (StepS.cmp rfl rfl rfl) ?_
      refine TO.code ?_
      refine TC.k ?_
      refine TC.cond rfl (fun hc25 => ?_) (fun hc25 => ?_)
      · replace hb24 := cond_t hc25 hb24
        refine TC.skipk ?_
        refine TC.k ?_
        refine TC.block ?_
        refine TC.k ?_
        refine TC.region ?_
        refine TO.s rfl rfl rfl (StepS.move rfl) ?_
        refine TO.s rfl rfl rfl (StepS.assign rfl) ?_
        refine TO.code ?_
        refine TC.region ?_
        refine TO.s rfl rfl rfl (StepS.move rfl) ?_
        refine TO.s rfl rfl rfl (StepS.move rfl) ?_
        refine TO.s rfl rfl rfl (StepS.move rfl) ?_
        obtain ⟨y26, hk27, hb24⟩ := bind_some hb24
        refine TO.mkS (f := cI) (za := 0) kelemB_34_3_1_8_true kinfo_3_bind_zero_some_I_0 rfl (by decide) rfl rfl hk27 rfl fun v28 => ?_
        obtain ⟨x30, hx31, hb24⟩ := bind_some hb24
        refine TO.s rfl rfl rfl (StepS.idxRR rfl rfl (SF.rr (Ent.at 1 rfl) (Ent.at 2 rfl)) ksliceB_43_34_1_true hx31) ?_
        refine TO.ghost (fun _ s => Sat.front 2 rfl s) ?_
        refine TO.ghost (fun _ s => Sat.front 1 rfl s) ?_
        refine TO.ghost (fun _ s => Sat.freeze s) ?_
        refine TO.ghost (L' := (FZ 3 1 cI ((v28, y26) :: zs13) :: SF 34 v8 hs12 (y11) ((v28, y26) :: zs13) :: L)) (fun _ s => Sat.at 1 rfl (SF.grow fun _ _ h => InZ.tl h) s) ?_
        refine TO.ghost (fun _ s => Sat.front 1 rfl s) ?_
        refine TO.pure (fun _ s => Rd.one (FZ.rd (Ent.at 1 rfl) InZ.hd) s) fun oc32 => ?_
        refine TO.stSF (xs := y26) rfl rfl hx31 InZ.hd oc32 ksizeB_34_1_true fun hs33 => ?_
        refine TO.code ?_
        refine TC.region ?_
        refine TO.s rfl rfl rfl (StepS.ari rfl rfl rfl) ?_
        refine TO.s rfl rfl rfl (StepS.move rfl) ?_
        cases hb24
        refine TO.nil fun a w e s => ?_
        exact ⟨hs33, ((v28, y26) :: zs13), e.sub (lk_of_allIn ⟨rfl, rfl, rfl, rfl, rfl, trivial⟩), s⟩
      · replace hb24 := cond_f hc25 hb24
        cases hb24
        refine TC.exit rfl fun a w e s => ?_
        exact ⟨hs12, zs13, e.sub (lk_of_allIn ⟨rfl, rfl, trivial⟩), s⟩
    · exact fun a w e s => ⟨hs9, ([] : List (Value × List Int)), e.sub (lk_of_allIn ⟨rfl, rfl, rfl, rfl, rfl, trivial⟩), s⟩
    · rintro y19 rfl a w ⟨hs20, zs21, he, hs⟩
      dsimp only [Ctl.on] at hm
      refine TC.use ?_ he hs
      refine TC.k ?_
      refine TC.region ?_
      refine TO.mkMZ (kf := (fun k : Int => I k)) (zs := zs21) rfl fun r34 hs35 => ?_
      refine TO.s rfl rfl rfl (StepS.assign rfl) ?_
      refine TO.code ?_
      refine TC.k ?_
      refine TC.region ?_
      refine TO.s rfl rfl rfl (StepS.assign rfl) ?_
      refine TO.code ?_
      refine TC.k ?_
      refine TC.k ?_
      refine TC.region ?_
      refine TO.s rfl rfl rfl (StepS.move rfl) ?_
      refine TO.s rfl rfl rfl (StepS.lenm rfl e1.tl.tl.tl ksliceB_22_58_3_true rfl) ?_
      refine TO.s rfl rfl rfl (StepS.move rfl) ?_
      refine TO.code ?_
      obtain ⟨o66, hw67, hm⟩ := bind_some hm
      refine TC.loop hw67 (fun (y40, y41, y43, x46) => fun a w => ∃ v37 : Value, ∃ hs38 : List Value, ∃ hs42 : Int → Value, ∃ hs44 : List Value, ∃ zs45 : List (Value × List Int), Mid 81 B [(7, v8), (9, .map (some r34)), (10, v37), (34, h1), (35, I (a1.length : Int)), (36, I x46)] (SS 34 3 1 cI v37 hs38 (y40) :: MZ (fun k : Int => I k) r34 hs42 (y41) zs45 :: SF 34 v8 hs44 (y43) zs45 :: FZ 3 1 cI zs45 :: L) a w) (fun (y60, y61, y63) => fun a w => ∃ v57 : Value, ∃ hs58 : List Value, ∃ hs62 : Int → Value, ∃ hs64 : List Value, ∃ zs65 : List (Value × List Int), Mid 81 B [(10, v57)] (SS 34 3 1 cI v57 hs58 (y60) :: MZ (fun k : Int => I k) r34 hs62 (y61) zs65 :: SF 34 v8 hs64 (y63) zs65 :: FZ 3 1 cI zs65 :: L) a w) (fun (_ : Unit) _ _ => False) ?_ ?_ ?_ ?_
      · rintro ⟨y40, y41, y43, x46⟩ o66r hb68 a w ⟨v37, hs38, hs42, hs44, zs45, he, hs⟩
        dsimp only [F28_L1] at hb68
        refine TC.use ?_ he hs
        refine TC.k ?_
        refine TC.region ?_
        refine TO.s rfl rfl rfl (StepS.cmp rfl rfl rfl) ?_
        refine TO.code ?_
        refine TC.k ?_
        refine TC.cond rfl (fun hc69 => ?_) (fun hc69 => ?_)
        · replace hb68 := cond_t hc69 hb68
          refine TC.skipk ?_
          refine TC.k ?_
          refine TC.block ?_
          refine TC.k ?_
          refine TC.region ?_
          obtain ⟨x70, hx71, hb68⟩ := bind_some hb68
          refine TO.s rfl rfl rfl (StepS.idx rfl rfl e1.tl.tl.tl.tl ksliceB_22_58_3_true (idx_spec hx71).1 (idxm_lt hx71)) ?_
          refine TO.s rfl rfl rfl (StepS.ldE rfl e1.tl.tl.tl.tl kaggB_58_3_true rfl (idxm hx71)) ?_
          refine TO.alloc kinfo_58_bind_zero_some_agg_I_0_I_0_I_0 rfl rfl fun b72 => ?_
          refine TO.stB (us := [I x70.1, I x70.2.1, I x70.2.2]) 0 [I x70.1, I x70.2.1, I x70.2.2] rfl rfl rfl ksizeB_58_3_true rfl rfl rfl (by simp [Value.oneCell']) rfl ?_
          refine TO.code ?_
          refine TC.k ?_
          refine TC.region ?_
          refine TO.s rfl rfl rfl (StepS.move rfl) ?_
          refine TO.s rfl rfl rfl (StepS.fld rfl kfieldB_58_0_0_true) ?_
          refine TO.s rfl rfl rfl (StepS.ldB rfl (Ent.at 0 rfl) kscalB_3_true rfl) ?_
          obtain ⟨x73, hx74, hb68⟩ := bind_some hb68
          refine TO.s rfl rfl rfl (StepS.idxRR rfl rfl (SF.rr (Ent.at 3 rfl) (Ent.at 4 rfl)) ksliceB_43_34_1_true hx74) ?_
          refine TO.s rfl rfl rfl (StepS.ldRR rfl (SF.rr (Ent.at 3 rfl) (Ent.at 4 rfl)) kscalB_34_true hx74) ?_
          obtain ⟨r76, hc77, hb68⟩ := bind_some hb68
          refine TO.callO kcallB_43_true rfl rfl rfl (fun _ st => C43 (RR.row (SF.rr (Ent.at 3 rfl) (Ent.at 4 rfl)) hx74) hc77 st) ?_
          rintro v78 _ ⟨_, rfl, rfl⟩
          refine TO.s rfl rfl rfl (StepS.assign rfl) ?_
          refine TO.code ?_
          refine TC.k ?_
          refine TC.k ?_
          refine TC.region ?_
          refine TO.s rfl rfl rfl (StepS.fld rfl kfieldB_58_1_1_true) ?_
          refine TO.s rfl rfl rfl (StepS.ldB rfl (Ent.at 1 rfl) kscalB_3_true rfl) ?_
          refine TO.s rfl rfl rfl (StepS.cmp rfl rfl rfl) ?_
          refine TO.code ?_
          obtain ⟨y82, hj83, hb68⟩ := bind_some hb68
          first | refine TC.cutM (fun a w => ∃ v80 : Value, Mid 81 B [(7, v8), (9, .map (some r34)), (10, v37), (12, .pointer (some ⟨b72, 0, none⟩)), (13, v80), (34, h1), (35, I (a1.length : Int)), (36, I x46)] (OwnS 3 1 v80 (y82.map cI) :: Bx b72 58 [I x70.1, I x70.2.1, I x70.2.2] :: SS 34 3 1 cI v37 hs38 (y40) :: MZ (fun k : Int => I k) r34 hs42 (y41) zs45 :: SF 34 v8 hs44 (y43) zs45 :: FZ 3 1 cI zs45 :: L) a w) ?_ ?_ | refine TC.cutX (fun a w => ∃ v80 : Value, Mid 81 B [(7, v8), (9, .map (some r34)), (10, v37), (12, .pointer (some ⟨b72, 0, none⟩)), (13, v80), (34, h1), (35, I (a1.length : Int)), (36, I x46)] (OwnS 3 1 v80 (y82.map cI) :: Bx b72 58 [I x70.1, I x70.2.1, I x70.2.2] :: SS 34 3 1 cI v37 hs38 (y40) :: MZ (fun k : Int => I k) r34 hs42 (y41) zs45 :: SF 34 v8 hs44 (y43) zs45 :: FZ 3 1 cI zs45 :: L) a w) ?_ ?_
          · refine TC.cond rfl (fun hc84 => ?_) (fun hc84 => ?_)
            · replace hj83 := cond_t hc84 hj83
              refine TC.region ?_
              refine TO.s rfl rfl rfl (StepS.move rfl) ?_
              refine TO.s rfl rfl rfl (StepS.move rfl) ?_
              refine TO.s rfl rfl rfl (StepS.fld rfl kfieldB_58_2_2_true) ?_
              refine TO.s rfl rfl rfl (StepS.ldB rfl (Ent.at 1 rfl) kscalB_3_true rfl) ?_
              refine TO.s rfl rfl rfl (StepS.lookMZ (k := x70.2.2) kmapGB_65_3_34_true (KeyOk.int kunderlying_3_some_int_i64) kinfo_34_bind_zero_some_slice_none_0_0 rfl (Ent.at 3 rfl) rfl) ?_
              obtain ⟨r85, hc86, hj83⟩ := bind_some hj83
              refine TO.callO kcallB_44_true rfl rfl rfl (fun _ st => C44 (OwnS.rd (Ent.at 0 rfl)) (MZ.rd (k := x70.2.2) (Ent.at 3 rfl) (Ent.at 5 rfl)) hc86 st) ?_
              rintro v87 _ ⟨_, rfl, rfl⟩
              refine TO.s rfl rfl rfl (StepS.assign rfl) ?_
              cases hj83
              refine TO.nil fun a w e s => ?_
              exact ⟨v87, e.sub (lk_of_allIn ⟨rfl, rfl, rfl, rfl, rfl, rfl, rfl, rfl, trivial⟩), s.mono fun _ s => (by exact Sat.by [6, 6, 6, 6, 6, 5] 6 1 (by kernel_rfl) s)⟩
            · replace hj83 := cond_f hc84 hj83
              cases hj83
              refine TC.skip fun a w e s => ?_
              exact ⟨v78, e.sub (lk_of_allIn ⟨rfl, rfl, rfl, rfl, rfl, rfl, rfl, rfl, trivial⟩), s⟩
          · intro a w ⟨v80, he, hs⟩
            refine TC.use ?_ he hs
            refine TC.k ?_
            refine TC.region ?_
            refine TO.s rfl rfl rfl (StepS.move rfl) ?_
            refine TO.s rfl rfl rfl (StepS.fld rfl kfieldB_58_0_0_true) ?_
            refine TO.s rfl rfl rfl (StepS.ldB rfl (Ent.at 1 rfl) kscalB_3_true rfl) ?_
            obtain ⟨x89, hx90, hb68⟩ := bind_some hb68
            refine TO.s rfl rfl rfl (StepS.idx rfl rfl (OwnS.rd (Ent.at 0 rfl)) ksliceB_34_3_1_true (idx_spec hx90).1 (idxm_lt hx90)) ?_
            refine TO.s rfl rfl rfl (StepS.ld0 rfl (OwnS.rd (Ent.at 0 rfl)) kscalB_3_true rfl (idxm hx90) rfl) ?_
            refine TO.s rfl rfl rfl (StepS.ari rfl rfl rfl) ?_
            obtain ⟨x91, hx92, hb68⟩ := bind_some hb68
            refine TO.s rfl rfl rfl (StepS.idx rfl rfl (OwnS.rd (Ent.at 0 rfl)) ksliceB_34_3_1_true (idx_spec hx92).1 (idxm_lt hx92)) ?_
            refine TO.stO (i := x70.1.toNat) (off := 0) (us := [I (w64 (x89 + 1))]) 0 (w64 (x89 + 1)) rfl rfl rfl ksizeB_3_1_true rfl rfl rfl (idx_spec hx92).2 rfl (by simp [Value.oneCell']) rfl ?_
            refine TO.code ?_
            refine TC.k ?_
            refine TC.region ?_
            refine TO.s rfl rfl rfl (StepS.move rfl) ?_
            refine TO.s rfl rfl rfl (StepS.fld rfl kfieldB_58_0_0_true) ?_
            refine TO.s rfl rfl rfl (StepS.ldB rfl (Ent.at 1 rfl) kscalB_3_true rfl) ?_
            refine TO.s rfl rfl rfl (StepS.move rfl) ?_
            obtain ⟨x93, hx94, hb68⟩ := bind_some hb68
            refine TO.s rfl rfl rfl (StepS.idxRR rfl rfl (SF.rr (Ent.at 4 rfl) (Ent.at 5 rfl)) ksliceB_43_34_1_true hx94) ?_
            refine TO.ghost (fun _ s => Sat.front 5 rfl s) ?_
            refine TO.ghost (fun _ s => Sat.front 1 rfl s) ?_
            refine TO.ghost (fun _ s => Sat.freeze s) ?_
            refine TO.ghost (L' := (FZ 3 1 cI ((v80, y82.set x70.1.toNat (w64 (x89 + 1))) :: zs45) :: Bx b72 58 [I x70.1, I x70.2.1, I x70.2.2] :: SS 34 3 1 cI v37 hs38 (y40) :: MZ (fun k : Int => I k) r34 hs42 (y41) ((v80, y82.set x70.1.toNat (w64 (x89 + 1))) :: zs45) :: SF 34 v8 hs44 (y43) zs45 :: L)) (fun _ s => Sat.at 3 rfl (MZ.grow fun _ _ h => InZ.tl h) s) ?_
            refine TO.ghost (L' := (FZ 3 1 cI ((v80, y82.set x70.1.toNat (w64 (x89 + 1))) :: zs45) :: Bx b72 58 [I x70.1, I x70.2.1, I x70.2.2] :: SS 34 3 1 cI v37 hs38 (y40) :: MZ (fun k : Int => I k) r34 hs42 (y41) ((v80, y82.set x70.1.toNat (w64 (x89 + 1))) :: zs45) :: SF 34 v8 hs44 (y43) ((v80, y82.set x70.1.toNat (w64 (x89 + 1))) :: zs45) :: L)) (fun _ s => Sat.at 4 rfl (SF.grow fun _ _ h => InZ.tl h) s) ?_
            refine TO.ghost (fun _ s => Sat.front 4 rfl s) ?_
            refine TO.pure (fun _ s => Rd.one (FZ.rd (Ent.at 1 rfl) InZ.hd) s) fun oc95 => ?_
            refine TO.stSF (xs := (y82.set x70.1.toNat (w64 (x89 + 1)))) rfl rfl hx94 InZ.hd oc95 ksizeB_34_1_true fun hs96 => ?_
            refine TO.code ?_
            refine TC.k ?_
            refine TC.k ?_
            refine TC.region ?_
            refine TO.s rfl rfl rfl (StepS.fld rfl kfieldB_58_1_1_true) ?_
            refine TO.s rfl rfl rfl (StepS.ldB rfl (Ent.at 2 rfl) kscalB_3_true rfl) ?_
            refine TO.s rfl rfl rfl (StepS.cmp rfl rfl rfl) ?_
            refine TO.code ?_
            obtain ⟨y97, hj99, hb68⟩ := bind_some hb68
            first | refine TC.cutM (fun a w => ∃ hs98 : Int → Value, Mid 81 B [(7, v8), (9, .map (some r34)), (10, v37), (13, v80), (34, h1), (35, I (a1.length : Int)), (36, I x46)] (SF 34 v8 hs96 (y43.set x70.1.toNat (y82.set x70.1.toNat (w64 (x89 + 1)))) ((v80, y82.set x70.1.toNat (w64 (x89 + 1))) :: zs45) :: FZ 3 1 cI ((v80, y82.set x70.1.toNat (w64 (x89 + 1))) :: zs45) :: Bx b72 58 [I x70.1, I x70.2.1, I x70.2.2] :: SS 34 3 1 cI v37 hs38 (y40) :: MZ (fun k : Int => I k) r34 hs98 (y97) ((v80, y82.set x70.1.toNat (w64 (x89 + 1))) :: zs45) :: L) a w) ?_ ?_ | refine TC.cutX (fun a w => ∃ hs98 : Int → Value, Mid 81 B [(7, v8), (9, .map (some r34)), (10, v37), (13, v80), (34, h1), (35, I (a1.length : Int)), (36, I x46)] (SF 34 v8 hs96 (y43.set x70.1.toNat (y82.set x70.1.toNat (w64 (x89 + 1)))) ((v80, y82.set x70.1.toNat (w64 (x89 + 1))) :: zs45) :: FZ 3 1 cI ((v80, y82.set x70.1.toNat (w64 (x89 + 1))) :: zs45) :: Bx b72 58 [I x70.1, I x70.2.1, I x70.2.2] :: SS 34 3 1 cI v37 hs38 (y40) :: MZ (fun k : Int => I k) r34 hs98 (y97) ((v80, y82.set x70.1.toNat (w64 (x89 + 1))) :: zs45) :: L) a w) ?_ ?_
            · refine TC.cond rfl (fun hc100 => ?_) (fun hc100 => ?_)
              · replace hj99 := cond_t hc100 hj99
                refine TC.region ?_
                refine TO.s rfl rfl rfl (StepS.move rfl) ?_
                refine TO.s rfl rfl rfl (StepS.fld rfl kfieldB_58_2_2_true) ?_
                refine TO.s rfl rfl rfl (StepS.ldB rfl (Ent.at 2 rfl) kscalB_3_true rfl) ?_
                refine TO.s rfl rfl rfl (StepS.move rfl) ?_
                refine TO.ghost (fun _ s => Sat.front 4 rfl s) ?_
                refine TO.msetZ (k := x70.2.2) (ys := (y82.set x70.1.toNat (w64 (x89 + 1)))) kmapGB_65_3_34_true (KeyOk.int kunderlying_3_some_int_i64) rfl rfl rfl InZ.hd fun hs101 => ?_
                cases hj99
                refine TO.nil fun a w e s => ?_
                exact ⟨hs101, e.sub (lk_of_allIn ⟨rfl, rfl, rfl, rfl, rfl, rfl, rfl, trivial⟩), s.mono fun _ s => (by exact Sat.by [0, 4, 4, 4, 4] 5 0 (by kernel_rfl) s)⟩
              · replace hj99 := cond_f hc100 hj99
                cases hj99
                refine TC.skip fun a w e s => ?_
                exact ⟨hs42, e.sub (lk_of_allIn ⟨rfl, rfl, rfl, rfl, rfl, rfl, rfl, trivial⟩), s⟩
            · intro a w ⟨hs98, he, hs⟩
              refine TC.use ?_ he hs
              refine TC.region ?_
              refine TO.s rfl rfl rfl (StepS.move rfl) ?_
              refine TO.s rfl rfl rfl (StepS.move rfl) ?_
              obtain ⟨r102, hc103, hb68⟩ := bind_some hb68
              refine TO.callO kcallB_43_true rfl rfl rfl (fun _ st => C43 (FZ.rd (Ent.at 1 rfl) InZ.hd) hc103 st) ?_
              rintro v104 _ ⟨_, rfl, rfl⟩
              refine TO.lit1H rfl (OwnS.rd (Ent.at 0 rfl)) kelemB_43_34_1_24_true rfl fun v106 => ?_
              refine TO.ghost (fun _ s => Sat.front 5 rfl s) ?_
              refine TO.ghost (fun _ s => Sat.front 2 rfl s) ?_
              obtain ⟨y109, hk110, hb68⟩ := bind_some hb68
              refine TO.appSS (row := r102) rfl kelemB_43_34_1_24_true rfl rfl (OwnS.rd (Ent.at 0 rfl)) hk110 rfl rfl fun v111 hs112 => ?_
              refine TO.ghost (fun _ s => Sat.erase 1 s) ?_
              refine TO.s rfl rfl rfl (StepS.assign rfl) ?_
              refine TO.code ?_
              refine TC.region ?_
              refine TO.s rfl rfl rfl (StepS.ari rfl rfl rfl) ?_
              refine TO.s rfl rfl rfl (StepS.move rfl) ?_
              cases hb68
              refine TO.nil fun a w e s => ?_
              exact ⟨v111, hs112, hs98, hs96, ((v80, y82.set x70.1.toNat (w64 (x89 + 1))) :: zs45), e.sub (lk_of_allIn ⟨rfl, rfl, rfl, rfl, rfl, rfl, trivial⟩), s.mono fun _ s => (by exact Sat.by [2, 2, 4, 3] 4 1 (by kernel_rfl) s)⟩
        · replace hb68 := cond_f hc69 hb68
          cases hb68
          refine TC.exit rfl fun a w e s => ?_
          exact ⟨v37, hs38, hs42, hs44, zs45, e.sub (lk_of_allIn ⟨rfl, trivial⟩), s⟩
      · exact fun a w e s => ⟨.slice none 0 0, [], hs35, hs20, zs21, e.sub (lk_of_allIn ⟨rfl, rfl, rfl, rfl, rfl, rfl, trivial⟩), s.mono fun _ s => (by replace s := Sat.nilSS (e := 34) (ee := 3) (sz := 1) (f := cI) s; exact Sat.by [3, 3, 3, 3] 4 0 (by kernel_rfl) s)⟩
      · rintro ⟨y60, y61, y63⟩ rfl a w ⟨v57, hs58, hs62, hs64, zs65, he, hs⟩
        dsimp only [Ctl.on] at hm
        refine TC.use ?_ he hs
        refine TC.k ?_
        refine TC.region ?_
        refine TO.s rfl rfl rfl (StepS.move rfl) ?_
        refine TO.s rfl rfl rfl (StepS.assign rfl) ?_
        refine TO.s rfl rfl rfl (StepS.assign rfl) ?_
        refine TO.code ?_
        cases hm
        refine TC.ret fun a w e s => ?_
        refine FRet.mk2 (P := Try.prog) (fn := Try.f28) (t := 4) (u := 5) e rfl rfl rfl ?_
        refine ⟨_, _, rfl, ⟨(v57), (hs58), rfl, rfl⟩, ?_⟩
        refine s.mono fun _ s => ?_
        replace s := Sat.front 0 rfl s
        replace s := Sat.erase 1 s
        replace s := Sat.erase 1 s
        replace s := Sat.erase 1 s
        exact s
      · rintro r rfl
        exact fun a w h => h.elim
    · rintro r rfl
      exact fun a w h => h.elim

set_option maxRecDepth 100000 in
theorem C29 {B : World} {L : List HP} {a0 : Int} {a1 : List (Int × Int × Int)} {a2 : List (List Bool)} {a3 : Int} {h1 : Value} {h2 : Value} {k2_ : List Value} {r0 : List Int} (e1 : Ent L (Rd 3 h1 (a1.map cTiii))) (e2 : Ent L (RR 1 cB h2 k2_ a2)) (hm : F29 a0 a1 a2 a3 = some r0) {w : World} (st : St B L w) : Calls Try.prog 29 #[I a0, h1, h2, I a3] w (fun e w' => ∃ v M, e = .returned v ∧ (∃ (qv1 : Value), v = qv1 ∧ M = (OwnS 3 1 qv1 (r0.map cI) :: L)) ∧ St B M w') := by
  refine calls_of (N := 47) (L := L) (args := [I a0, h1, h2, I a3]) Try.func29 rfl rfl rfl ?_ st
  dsimp only [F29] at hm
  refine TC.k ?_
  refine TC.region ?_
  refine TO.s rfl rfl rfl (StepS.assign rfl) ?_
  refine TO.code ?_
  refine TC.k ?_
  refine TC.region ?_
  refine TO.s rfl rfl rfl (StepS.move rfl) ?_
  obtain ⟨y2, hk3, hm⟩ := bind_some hm
  refine TO.mkS (f := cI) (za := 0) kelemB_34_3_1_8_true kinfo_3_bind_zero_some_I_0 rfl (by decide) rfl rfl hk3 rfl fun v4 => ?_
  refine TO.s rfl rfl rfl (StepS.assign rfl) ?_
  refine TO.code ?_
  refine TC.k ?_
  refine TC.k ?_
  refine TC.region ?_
  refine TO.s rfl rfl rfl (StepS.assign rfl) ?_
  refine TO.code ?_
  obtain ⟨o11, hw12, hm⟩ := bind_some hm
  refine TC.loop hw12 (fun (y6, x7) => fun a w => Mid 47 B [(1, h1), (2, h2), (3, I a3), (9, v4), (10, I x7)] (OwnS 3 1 v4 (y6.map cI) :: L) a w) (fun y10 => fun a w => Mid 47 B [(9, v4)] (OwnS 3 1 v4 (y10.map cI) :: L) a w) (fun (_ : Unit) _ _ => False) ?_ ?_ ?_ ?_
  · rintro ⟨y6, x7⟩ o11r hb13 a w ⟨he, hs⟩
    dsimp only [F29_L0] at hb13
    refine TC.use ?_ he hs
    refine TC.k ?_
    refine TC.k ?_
    refine TC.region ?_
    refine TO.s rfl rfl rfl (StepS.move rfl) ?_
    refine TO.s rfl rfl rfl (StepS.move rfl) ?_
    refine TO.s rfl rfl rfl (StepS.cmp rfl rfl rfl) ?_
    refine TO.code ?_
    refine TC.cond rfl (fun hc14 => ?_) (fun hc14 => ?_)
    · replace hb13 := cond_t hc14 hb13
      refine TC.skipk ?_
      refine TC.k ?_
      obtain ⟨y15, hj16, hb13⟩ := bind_some hb13
      first | refine TC.cutM (fun a w => Mid 47 B [(1, h1), (2, h2), (3, I a3), (9, v4), (10, I x7)] (OwnS 3 1 v4 (y15.map cI) :: L) a w) ?_ ?_ | refine TC.cutX (fun a w => Mid 47 B [(1, h1), (2, h2), (3, I a3), (9, v4), (10, I x7)] (OwnS 3 1 v4 (y15.map cI) :: L) a w) ?_ ?_
      · refine TC.block ?_
        refine TC.k ?_
        refine TC.region ?_
        refine TO.s rfl rfl rfl (StepS.move rfl) ?_
        refine TO.s rfl rfl rfl (StepS.move rfl) ?_
        refine TO.s rfl rfl rfl (StepS.cmp rfl rfl rfl) ?_
        refine TO.s rfl rfl rfl (StepS.move rfl) ?_
        obtain ⟨b18, hj19, hj16⟩ := bind_some hj16
        refine TO.mid1 8 29 (.bool b18) ?_ ?_
        · refine bcase ((x7 == a3)) (fun hb17 => ?_) (fun hb17 => ?_)
          · replace hj19 := cond_t hb17 hj19
            cases hj19
            refine TO.skip rfl rfl rfl (skipT hb17) rfl rfl ?_
            refine TO.skip rfl rfl rfl (skipT hb17) rfl rfl ?_
            refine TO.skip rfl rfl rfl (skipT hb17) rfl rfl ?_
            refine TO.skip rfl rfl rfl (skipT hb17) rfl rfl ?_
            refine TO.skip rfl rfl rfl (skipT hb17) rfl rfl ?_
            refine TO.skip rfl rfl rfl (skipT hb17) rfl rfl ?_
            refine TO.skip rfl rfl rfl (skipT hb17) rfl rfl ?_
            refine TO.s rfl rfl rfl (StepS.pickT rfl hb17 rfl) ?_
            exact TO.up1 8 0 rfl rfl rfl rfl
          · replace hj19 := cond_f hb17 hj19
            refine TO.sw rfl rfl rfl hb17 rfl rfl (StepS.move rfl) ?_
            refine TO.sw rfl rfl rfl hb17 rfl rfl (StepS.move rfl) ?_
            obtain ⟨x20, hx21, hj19⟩ := bind_some hj19
            refine TO.sw rfl rfl rfl hb17 rfl rfl (StepS.idxRR rfl rfl e2.tl ksliceB_29_28_1_true hx21) ?_
            refine TO.sw rfl rfl rfl hb17 rfl rfl (StepS.ldRR rfl e2.tl kscalB_28_true hx21) ?_
            refine TO.sw rfl rfl rfl hb17 rfl rfl (StepS.move rfl) ?_
            obtain ⟨x23, hx24, hj19⟩ := bind_some hj19
            refine TO.sw rfl rfl rfl hb17 rfl rfl (StepS.idx rfl rfl (RR.row e2.tl hx21) ksliceB_28_4_1_true (idx_spec hx24).1 (idxm_lt hx24)) ?_
            refine TO.sw rfl rfl rfl hb17 rfl rfl (StepS.ld0 rfl (RR.row e2.tl hx21) kscalB_4_true rfl (idxm hx24) rfl) ?_
            cases hj19
            refine TO.s rfl rfl rfl (StepS.pickF rfl hb17 rfl) ?_
            exact TO.up1 8 0 rfl rfl rfl rfl
        refine TO.code ?_
        refine TC.cond rfl (fun hc25 => ?_) (fun hc25 => ?_)
        · replace hj16 := cond_t hc25 hj16
          refine TC.region_tail 16 kfollows_mixedOrders_true (by kernel_rfl) ?_
          refine TS.s rfl rfl rfl (StepS.move rfl) ?_
          refine TS.s rfl rfl rfl (StepS.move rfl) ?_
          refine TS.s rfl rfl rfl (StepS.move rfl) ?_
          obtain ⟨x26, hx27, hj16⟩ := bind_some hj16
          refine TS.s rfl rfl rfl (StepS.idx rfl rfl e1.tl ksliceB_22_58_3_true (idx_spec hx27).1 (idxm_lt hx27)) ?_
          refine TS.s rfl rfl rfl (StepS.ptrf rfl kfieldB_58_0_0_true) ?_
          refine TS.s rfl rfl rfl (StepS.ld1 rfl e1.tl kscalB_3_true rfl (idxm hx27) rfl) ?_
          refine TS.s rfl rfl rfl (StepS.move rfl) ?_
          refine TS.s rfl rfl rfl (StepS.move rfl) ?_
          refine TS.s rfl rfl rfl (StepS.move rfl) ?_
          obtain ⟨x28, hx29, hj16⟩ := bind_some hj16
          refine TS.s rfl rfl rfl (StepS.idx rfl rfl e1.tl ksliceB_22_58_3_true (idx_spec hx29).1 (idxm_lt hx29)) ?_
          refine TS.s rfl rfl rfl (StepS.ptrf rfl kfieldB_58_0_0_true) ?_
          refine TS.s rfl rfl rfl (StepS.ld1 rfl e1.tl kscalB_3_true rfl (idxm hx29) rfl) ?_
          obtain ⟨x30, hx31, hj16⟩ := bind_some hj16
          refine TS.s rfl rfl rfl (StepS.idx rfl rfl (OwnS.rd (Ent.at 0 rfl)) ksliceB_34_3_1_true (idx_spec hx31).1 (idxm_lt hx31)) ?_
          refine TS.s rfl rfl rfl (StepS.ld0 rfl (OwnS.rd (Ent.at 0 rfl)) kscalB_3_true rfl (idxm hx31) rfl) ?_
          refine TS.s rfl rfl rfl (StepS.ari rfl rfl rfl) ?_
          obtain ⟨x32, hx33, hj16⟩ := bind_some hj16
          refine TS.s rfl rfl rfl (StepS.idx rfl rfl (OwnS.rd (Ent.at 0 rfl)) ksliceB_34_3_1_true (idx_spec hx33).1 (idxm_lt hx33)) ?_
          refine TS.nil ?_
          refine TO.at ?_
          refine TO.stO (i := x26.1.toNat) (off := 0) (us := [I (w64 (x30 + 1))]) 0 (w64 (x30 + 1)) rfl rfl rfl ksizeB_3_1_true rfl rfl rfl (idx_spec hx33).2 rfl (by simp [Value.oneCell']) rfl ?_
          cases hj16
          refine TO.nil fun a w e s => ?_
          exact ⟨e.sub (lk_of_allIn ⟨rfl, rfl, rfl, rfl, rfl, trivial⟩), s⟩
        · replace hj16 := cond_f hc25 hj16
          cases hj16
          refine TC.skip fun a w e s => ?_
          exact ⟨e.sub (lk_of_allIn ⟨rfl, rfl, rfl, rfl, rfl, trivial⟩), s⟩
      · intro a w ⟨he, hs⟩
        refine TC.use ?_ he hs
        refine TC.region ?_
        refine TO.s rfl rfl rfl (StepS.move rfl) ?_
        refine TO.s rfl rfl rfl (StepS.ari rfl rfl rfl) ?_
        refine TO.s rfl rfl rfl (StepS.assign rfl) ?_
        cases hb13
        refine TO.nil fun a w e s => ?_
        exact ⟨e.sub (lk_of_allIn ⟨rfl, rfl, rfl, rfl, rfl, trivial⟩), s⟩
    · replace hb13 := cond_f hc14 hb13
      cases hb13
      refine TC.exit rfl fun a w e s => ?_
      exact ⟨e.sub (lk_of_allIn ⟨rfl, trivial⟩), s⟩
  · exact fun a w e s => ⟨e.sub (lk_of_allIn ⟨rfl, rfl, rfl, rfl, rfl, trivial⟩), s⟩
  · rintro y10 rfl a w ⟨he, hs⟩
    dsimp only [Ctl.on] at hm
    refine TC.use ?_ he hs
    refine TC.k ?_
    refine TC.region ?_
    refine TO.s rfl rfl rfl (StepS.move rfl) ?_
    refine TO.s rfl rfl rfl (StepS.assign rfl) ?_
    refine TO.code ?_
    cases hm
    refine TC.ret fun a w e s => ?_
    refine FRet.mk1 (P := Try.prog) (fn := Try.f29) (t := 8) e rfl rfl ?_
    refine ⟨_, _, rfl, ⟨(v4), rfl, rfl⟩, ?_⟩
    refine s.mono fun _ s => ?_
    replace s := Sat.front 0 rfl s
    exact s
  · rintro r rfl
    exact fun a w h => h.elim

set_option maxRecDepth 100000 in
theorem C9 {B : World} {L : List HP} {a0 : Int} {a1 : List (Int × Int × Int)} {h1 : Value} {r0 : Bool} (e1 : Ent L (Rd 3 h1 (a1.map cTiii))) (hm : F9 a0 a1 = some r0) {w : World} (st : St B L w) : Calls Try.prog 9 #[I a0, h1] w (fun e w' => (e = .returned (.bool r0) ∧ St B (L) w')) := by
  refine calls_of (N := 57) (L := L) (args := [I a0, h1]) Try.func9 rfl rfl rfl ?_ st
  dsimp only [F9] at hm
  refine TC.k ?_
  refine TC.region ?_
  refine TO.s rfl rfl rfl (StepS.assign rfl) ?_
  refine TO.code ?_
  refine TC.k ?_
  refine TC.region ?_
  refine TO.s rfl rfl rfl (StepS.move rfl) ?_
  refine TO.s rfl rfl rfl (StepS.move rfl) ?_
  obtain ⟨⟨r1, r2⟩, hc3, hm⟩ := bind_some hm
  refine TO.callO kcallB_28_true rfl rfl rfl (fun _ st => C28 e1 hc3 st) ?_
  rintro _ _ ⟨v4, hs5, rfl, rfl⟩
  refine TO.s rfl rfl rfl (StepS.move rfl) ?_
  refine TO.s rfl rfl rfl (StepS.extract rfl rfl) ?_
  refine TO.s rfl rfl rfl (StepS.extract rfl rfl) ?_
  refine TO.s rfl rfl rfl (StepS.assign rfl) ?_
  refine TO.s rfl rfl rfl (StepS.assign rfl) ?_
  refine TO.code ?_
  refine TC.k ?_
  refine TC.region ?_
  refine TO.s rfl rfl rfl (StepS.move rfl) ?_
  refine TO.s rfl rfl rfl (StepS.move rfl) ?_
  obtain ⟨r7, hc8, hm⟩ := bind_some hm
  refine TO.q rfl rfl rfl (StepQ.call kcallB_16_true rfl rfl (fun _ st => C16 e1.tl hc8 st)) ?_
  refine TO.s rfl rfl rfl (StepS.assign rfl) ?_
  refine TO.code ?_
  refine TC.k ?_
  refine TC.k ?_
  refine TC.region ?_
  refine TO.s rfl rfl rfl (StepS.move rfl) ?_
  refine TO.s rfl rfl rfl (StepS.cmp rfl rfl rfl) ?_
  refine TO.code ?_
  refine TC.cond rfl (fun hc9 => ?_) (fun hc9 => ?_)
  · replace hm := cond_t hc9 hm
    refine TC.k ?_
    refine TC.region ?_
    refine TO.s rfl rfl rfl (StepS.move rfl) ?_
    refine TO.s rfl rfl rfl (StepS.move rfl) ?_
    refine TO.s rfl rfl rfl (StepS.cmp rfl rfl rfl) ?_
    refine TO.s rfl rfl rfl (StepS.move rfl) ?_
    refine TO.mid1 4 28 (.bool ((r2 == r7) && ((r1.length : Int) == 0))) ?_ ?_
    · refine bcase ((r2 == r7)) (fun hb10 => ?_) (fun hb10 => ?_)
      · refine TO.sw rfl rfl rfl hb10 rfl rfl (StepS.move rfl) ?_
        refine TO.sw rfl rfl rfl hb10 rfl rfl (StepS.lenRR rfl (SS.rr (Ent.at 0 rfl)) ksliceB_43_34_1_true rfl) ?_
        refine TO.sw rfl rfl rfl hb10 rfl rfl (StepS.cmp rfl rfl rfl) ?_
        refine TO.s rfl rfl rfl (StepS.pickT rfl hb10 rfl) ?_
        exact TO.up1 4 0 rfl rfl (by rw [hb10]; rfl) rfl
      · refine TO.skip rfl rfl rfl (skipF hb10) rfl rfl ?_
        refine TO.skip rfl rfl rfl (skipF hb10) rfl rfl ?_
        refine TO.skip rfl rfl rfl (skipF hb10) rfl rfl ?_
        refine TO.s rfl rfl rfl (StepS.pickF rfl hb10 rfl) ?_
        exact TO.up1 4 0 rfl rfl (by rw [hb10]; rfl) rfl
    refine TO.s rfl rfl rfl (StepS.assign rfl) ?_
    refine TO.code ?_
    cases hm
    refine TC.ret fun a w e s => ?_
    refine FRet.mk1 (P := Try.prog) (fn := Try.f9) (t := 4) e rfl rfl ?_
    exact ⟨rfl, s.mono fun _ => Sat.dropN 1⟩
  · replace hm := cond_f hc9 hm
    refine TC.skipk ?_
    refine TC.k ?_
    refine TC.k ?_
    refine TC.region ?_
    refine TO.s rfl rfl rfl (StepS.move rfl) ?_
    refine TO.s rfl rfl rfl (StepS.cmp rfl rfl rfl) ?_
    refine TO.s rfl rfl rfl (StepS.move rfl) ?_
    refine TO.mid1 6 37 (.bool ((r2 != 0) || ((r1.length : Int) != (a1.length : Int)))) ?_ ?_
    · refine bcase ((r2 != 0)) (fun hb11 => ?_) (fun hb11 => ?_)
      · refine TO.skip rfl rfl rfl (skipT hb11) rfl rfl ?_
        refine TO.skip rfl rfl rfl (skipT hb11) rfl rfl ?_
        refine TO.skip rfl rfl rfl (skipT hb11) rfl rfl ?_
        refine TO.skip rfl rfl rfl (skipT hb11) rfl rfl ?_
        refine TO.skip rfl rfl rfl (skipT hb11) rfl rfl ?_
        refine TO.s rfl rfl rfl (StepS.pickT rfl hb11 rfl) ?_
        exact TO.up1 6 0 rfl rfl (by rw [hb11]; rfl) rfl
      · refine TO.sw rfl rfl rfl hb11 rfl rfl (StepS.move rfl) ?_
        refine TO.sw rfl rfl rfl hb11 rfl rfl (StepS.lenRR rfl (SS.rr (Ent.at 0 rfl)) ksliceB_43_34_1_true rfl) ?_
        refine TO.sw rfl rfl rfl hb11 rfl rfl (StepS.move rfl) ?_
        refine TO.sw rfl rfl rfl hb11 rfl rfl (StepS.lenm rfl e1.tl ksliceB_22_58_3_true rfl) ?_
        refine TO.sw rfl rfl rfl hb11 rfl rfl (StepS.cmp rfl rfl rfl) ?_
        refine TO.s rfl rfl rfl (StepS.pickF rfl hb11 rfl) ?_
        exact TO.up1 6 0 rfl rfl (by rw [hb11]; rfl) rfl
    refine TO.code ?_
    refine TC.cond rfl (fun hc12 => ?_) (fun hc12 => ?_)
    · replace hm := cond_t hc12 hm
      refine TC.k ?_
      refine TC.region ?_
      refine TO.s rfl rfl rfl (StepS.assign rfl) ?_
      refine TO.code ?_
      cases hm
      refine TC.ret fun a w e s => ?_
      refine FRet.mk1 (P := Try.prog) (fn := Try.f9) (t := 4) e rfl rfl ?_
      exact ⟨rfl, s.mono fun _ => Sat.dropN 1⟩
    · replace hm := cond_f hc12 hm
      refine TC.skipk ?_
      refine TC.k ?_
      refine TC.region ?_
      refine TO.s rfl rfl rfl (StepS.move rfl) ?_
      obtain ⟨r13, hc14, hm⟩ := bind_some hm
      refine TO.callO kcallB_18_true rfl rfl rfl (fun _ st => C18 e1.tl hc14 st) ?_
      rintro v15 _ ⟨_, hs16, rfl, rfl⟩
      refine TO.s rfl rfl rfl (StepS.assign rfl) ?_
      refine TO.code ?_
      refine TC.k ?_
      refine TC.k ?_
      refine TC.region ?_
      refine TO.s rfl rfl rfl (StepS.assign rfl) ?_
      refine TO.code ?_
      obtain ⟨o20, hw21, hm⟩ := bind_some hm
      refine TC.loop hw21 (fun x18 => fun a w => Mid 57 B [(0, I a0), (1, h1), (5, v4), (8, v15), (9, I x18)] (SS 28 4 1 cB v15 hs16 (r13) :: SS 34 3 1 cI v4 hs5 (r1) :: L) a w) (fun _ => fun a w => Mid 57 B [] (SS 28 4 1 cB v15 hs16 (r13) :: SS 34 3 1 cI v4 hs5 (r1) :: L) a w) (fun r0 => FRet Try.prog Try.f9 (fun e w' => (e = .returned (.bool r0) ∧ St B (L) w'))) ?_ ?_ ?_ ?_
      · rintro x18 o20r hb22 a w ⟨he, hs⟩
        dsimp only [F9_L0] at hb22
        refine TC.use ?_ he hs
        refine TC.k ?_
        refine TC.k ?_
        refine TC.region ?_
        refine TO.s rfl rfl rfl (StepS.move rfl) ?_
        refine TO.s rfl rfl rfl (StepS.move rfl) ?_
        refine TO.s rfl rfl rfl (StepS.lenm rfl e1.tl.tl ksliceB_22_58_3_true rfl) ?_
        refine TO.s rfl rfl rfl (StepS.cmp rfl rfl rfl) ?_
        refine TO.code ?_
        refine TC.cond rfl (fun hc23 => ?_) (fun hc23 => ?_)
        · replace hb22 := cond_t hc23 hb22
          refine TC.skipk ?_
          refine TC.k ?_
          refine TC.block ?_
          refine TC.k ?_
          refine TC.region_any (SS 28 4 1 cB v15 hs16 (r13) :: SS 34 3 1 cI v4 hs5 (r1) :: L) 11 11 kfollows_mixedOrders_true rfl ?_
          refine TA.takeW 0 rfl rfl rfl rfl (StepS.move rfl) (by kernel_rfl) (by kernel_rfl) (by kernel_rfl) rfl (.inr (fun _ s => s)) ?_
          refine TA.takeW 1 rfl rfl rfl rfl (StepS.move rfl) (by kernel_rfl) (by kernel_rfl) (by kernel_rfl) rfl (.inr (fun _ s => s)) ?_
          obtain ⟨xq24_2_1, hxq24_2_2, hb22⟩ := bind_some hb22
          refine TA.take 2 rfl rfl rfl rfl (StepS.idxRR rfl rfl (SS.rr (Ent.at 1 rfl)) ksliceB_43_34_1_true hxq24_2_2) (by kernel_rfl) (by kernel_rfl) (by kernel_rfl) (by kernel_rfl) (by kernel_rfl) (fun _ s => s) ?_
          refine TA.take 3 rfl rfl rfl rfl (StepS.ldRR rfl (SS.rr (Ent.at 1 rfl)) kscalB_34_true hxq24_2_2) (by kernel_rfl) (by kernel_rfl) (by kernel_rfl) (by kernel_rfl) (by kernel_rfl) (fun _ s => s) ?_
          refine TA.takeW 4 rfl rfl rfl rfl (StepS.move rfl) (by kernel_rfl) (by kernel_rfl) (by kernel_rfl) rfl (.inr (fun _ s => s)) ?_
          refine TA.takeW 5 rfl rfl rfl rfl (StepS.move rfl) (by kernel_rfl) (by kernel_rfl) (by kernel_rfl) rfl (.inr (fun _ s => s)) ?_
          refine TA.takeW 6 rfl rfl rfl rfl (StepS.move rfl) (by kernel_rfl) (by kernel_rfl) (by kernel_rfl) rfl (.inr (fun _ s => s)) ?_
          refine TA.takeW 7 rfl rfl rfl rfl (StepS.move rfl) (by kernel_rfl) (by kernel_rfl) (by kernel_rfl) rfl (.inr (fun _ s => s)) ?_
          refine TA.all1 (i := 8) (by kernel_rfl) ?_
          refine TB.of rfl ?_
          obtain ⟨rq24_8_1, hcq24_8_2, hb22⟩ := bind_some hb22
          refine TO.callO kcallB_29_true rfl rfl rfl (fun _ st => C29 e1.tl.tl (SS.rr (Ent.at 0 rfl)) hcq24_8_2 st) ?_
          rintro vq24_8_3 _ ⟨_, rfl, rfl⟩
          refine TA.back (.inr (fun _ s => Sat.by [2, 2] 2 1 (by kernel_rfl) s)) ?_
          refine TA.asL (L' := (OwnS 3 1 vq24_8_3 (rq24_8_1.map cI) :: SS 28 4 1 cB v15 hs16 (r13) :: SS 34 3 1 cI v4 hs5 (r1) :: L)) (listed' := #[true, true, true, true, true, true, true, true, true, false, false]) (by kernel_rfl) (by kernel_rfl) ?_
          refine TA.all1 (i := 9) (by kernel_rfl) ?_
          refine TB.of rfl ?_
          obtain ⟨rq24_9_1, hcq24_9_2, hb22⟩ := bind_some hb22
          refine TO.q rfl rfl rfl (StepQ.call kcallB_24_true rfl rfl (fun _ st => C24 (RR.row (SS.rr (Ent.at 2 rfl)) hxq24_2_2) (OwnS.rd (Ent.at 0 rfl)) hcq24_9_2 st)) ?_
          refine TA.back (.inr (fun _ s => Sat.by [2, 2] 2 1 (by kernel_rfl) s)) ?_
          refine TA.asL (L' := (OwnS 3 1 vq24_8_3 (rq24_8_1.map cI) :: SS 28 4 1 cB v15 hs16 (r13) :: SS 34 3 1 cI v4 hs5 (r1) :: L)) (listed' := #[true, true, true, true, true, true, true, true, true, true, false]) (by kernel_rfl) (by kernel_rfl) ?_
          refine TA.takeW 10 rfl rfl rfl rfl (StepS.not rfl) (by kernel_rfl) (by kernel_rfl) (by kernel_rfl) rfl (.inr (fun _ s => Sat.by [2, 2] 2 1 (by kernel_rfl) s)) ?_
          refine TA.code (by kernel_rfl) ?_
          refine TC.cond rfl (fun hc25 => ?_) (fun hc25 => ?_)
          · replace hb22 := cond_t hc25 hb22
            refine TC.k ?_
            refine TC.region ?_
            refine TO.s rfl rfl rfl (StepS.assign rfl) ?_
            refine TO.code ?_
            cases hb22
            refine TC.ret fun a w e s => ?_
            refine FRet.mk1 (P := Try.prog) (fn := Try.f9) (t := 4) e rfl rfl ?_
            exact ⟨rfl, s.mono fun _ => Sat.dropN 3⟩
          · replace hb22 := cond_f hc25 hb22
            refine TC.skipk ?_
            refine TC.region ?_
            refine TO.s rfl rfl rfl (StepS.move rfl) ?_
            refine TO.s rfl rfl rfl (StepS.ari rfl rfl rfl) ?_
            refine TO.s rfl rfl rfl (StepS.assign rfl) ?_
            cases hb22
            refine TO.nil fun a w e s => ?_
            exact ⟨e.sub (lk_of_allIn ⟨rfl, rfl, rfl, rfl, rfl, trivial⟩), s.mono fun _ => Sat.dropN 1⟩
        · replace hb22 := cond_f hc23 hb22
          cases hb22
          refine TC.exit rfl fun a w e s => ?_
          exact ⟨e.sub (lk_of_allIn trivial), s⟩
      · exact fun a w e s => ⟨e.sub (lk_of_allIn ⟨rfl, rfl, rfl, rfl, rfl, trivial⟩), s⟩
      · rintro _ rfl a w ⟨he, hs⟩
        dsimp only [Ctl.on] at hm
        refine TC.use ?_ he hs
        refine TC.k ?_
        refine TC.region ?_
        refine TO.s rfl rfl rfl (StepS.assign rfl) ?_
        refine TO.code ?_
        cases hm
        refine TC.ret fun a w e s => ?_
        refine FRet.mk1 (P := Try.prog) (fn := Try.f9) (t := 4) e rfl rfl ?_
        exact ⟨rfl, s.mono fun _ => Sat.dropN 2⟩
      · rintro r rfl
        cases hm
        exact fun a w h => h

set_option maxRecDepth 100000 in
theorem C32 {B : World} {L : List HP} {a0 : Int} {a1 : List (Int × Int × Int)} {a2 : Int} {h1 : Value} {r0 : List Int} {r1 : Int} (e1 : Ent L (Rd 3 h1 (a1.map cTiii))) (hm : F32 a0 a1 a2 = some (r0, r1)) {w : World} (st : St B L w) : Calls Try.prog 32 #[I a0, h1, I a2] w (fun e w' => ∃ v M, e = .returned v ∧ (∃ (qv1 : Value), v = .tuple #[qv1, I r1] ∧ M = (OwnS 3 1 qv1 (r0.map cI) :: L)) ∧ St B M w') := by
  refine calls_of (N := 31) (L := L) (args := [I a0, h1, I a2]) Try.func32 rfl rfl rfl ?_ st
  dsimp only [F32] at hm
  refine TC.k ?_
  refine TC.region ?_
  refine TO.s rfl rfl rfl (StepS.assign rfl) ?_
  refine TO.s rfl rfl rfl (StepS.assign rfl) ?_
  refine TO.code ?_
  refine TC.k ?_
  refine TC.region ?_
  refine TO.s rfl rfl rfl (StepS.move rfl) ?_
  refine TO.s rfl rfl rfl (StepS.move rfl) ?_
  obtain ⟨⟨r2, r3⟩, hc4, hm⟩ := bind_some hm
  refine TO.callO kcallB_28_true rfl rfl rfl (fun _ st => C28 e1 hc4 st) ?_
  rintro _ _ ⟨v5, hs6, rfl, rfl⟩
  refine TO.s rfl rfl rfl (StepS.move rfl) ?_
  refine TO.s rfl rfl rfl (StepS.extract rfl rfl) ?_
  refine TO.s rfl rfl rfl (StepS.extract rfl rfl) ?_
  refine TO.s rfl rfl rfl (StepS.assign rfl) ?_
  refine TO.s rfl rfl rfl (StepS.assign rfl) ?_
  refine TO.code ?_
  refine TC.k ?_
  refine TC.k ?_
  refine TC.region ?_
  refine TO.s rfl rfl rfl (StepS.move rfl) ?_
  refine TO.s rfl rfl rfl (StepS.cmp rfl rfl rfl) ?_
  refine TO.code ?_
  refine TC.cond rfl (fun hc8 => ?_) (fun hc8 => ?_)
  · replace hm := cond_t hc8 hm
    refine TC.k ?_
    refine TC.region ?_
    refine TO.s rfl rfl rfl (StepS.move rfl) ?_
    refine TO.s rfl rfl rfl (StepS.assign rfl) ?_
    refine TO.s rfl rfl rfl (StepS.assign rfl) ?_
    refine TO.code ?_
    cases hm
    refine TC.ret fun a w e s => ?_
    refine FRet.mk2 (P := Try.prog) (fn := Try.f32) (t := 6) (u := 7) e rfl rfl rfl ?_
    refine ⟨_, _, rfl, ⟨(.slice none 0 0), rfl, rfl⟩, ?_⟩
    refine s.mono fun _ s => ?_
    replace s := Sat.nilS (e := 3) (sz := 1) (f := cI) s
    replace s := Sat.erase 1 s
    exact s
  · replace hm := cond_f hc8 hm
    refine TC.skipk ?_
    refine TC.k ?_
    refine TC.k ?_
    refine TC.region ?_
    refine TO.s rfl rfl rfl (StepS.move rfl) ?_
    refine TO.s rfl rfl rfl (StepS.cmp rfl rfl rfl) ?_
    refine TO.s rfl rfl rfl (StepS.move rfl) ?_
    refine TO.mid1 5 26 (.bool ((decide (a2 < 0)) || (decide (a2 ≥ (a1.length : Int))))) ?_ ?_
    · refine bcase ((decide (a2 < 0))) (fun hb9 => ?_) (fun hb9 => ?_)
      · refine TO.skip rfl rfl rfl (skipT hb9) rfl rfl ?_
        refine TO.skip rfl rfl rfl (skipT hb9) rfl rfl ?_
        refine TO.skip rfl rfl rfl (skipT hb9) rfl rfl ?_
        refine TO.skip rfl rfl rfl (skipT hb9) rfl rfl ?_
        refine TO.s rfl rfl rfl (StepS.pickT rfl hb9 rfl) ?_
        exact TO.up1 5 0 rfl rfl (by rw [hb9]; rfl) rfl
      · refine TO.sw rfl rfl rfl hb9 rfl rfl (StepS.move rfl) ?_
        refine TO.sw rfl rfl rfl hb9 rfl rfl (StepS.move rfl) ?_
        refine TO.sw rfl rfl rfl hb9 rfl rfl (StepS.lenm rfl e1.tl ksliceB_22_58_3_true rfl) ?_
        refine TO.sw rfl rfl rfl hb9 rfl rfl (StepS.cmp rfl rfl rfl) ?_
        refine TO.s rfl rfl rfl (StepS.pickF rfl hb9 rfl) ?_
        exact TO.up1 5 0 rfl rfl (by rw [hb9]; rfl) rfl
    refine TO.code ?_
    refine TC.cond rfl (fun hc10 => ?_) (fun hc10 => ?_)
    · replace hm := cond_t hc10 hm
      refine TC.k ?_
      refine TC.region ?_
      refine TO.s rfl rfl rfl (StepS.assign rfl) ?_
      refine TO.s rfl rfl rfl (StepS.assign rfl) ?_
      refine TO.code ?_
      cases hm
      refine TC.ret fun a w e s => ?_
      refine FRet.mk2 (P := Try.prog) (fn := Try.f32) (t := 6) (u := 7) e rfl rfl rfl ?_
      refine ⟨_, _, rfl, ⟨(.slice none 0 0), rfl, rfl⟩, ?_⟩
      refine s.mono fun _ s => ?_
      replace s := Sat.nilS (e := 3) (sz := 1) (f := cI) s
      replace s := Sat.erase 1 s
      exact s
    · replace hm := cond_f hc10 hm
      refine TC.skipk ?_
      refine TC.k ?_
      refine TC.region ?_
      refine TO.s rfl rfl rfl (StepS.move rfl) ?_
      refine TO.s rfl rfl rfl (StepS.move rfl) ?_
      obtain ⟨x11, hx12, hm⟩ := bind_some hm
      refine TO.s rfl rfl rfl (StepS.idxRR rfl rfl (SS.rr (Ent.at 0 rfl)) ksliceB_43_34_1_true hx12) ?_
      refine TO.s rfl rfl rfl (StepS.ldRR rfl (SS.rr (Ent.at 0 rfl)) kscalB_34_true hx12) ?_
      refine TO.s rfl rfl rfl (StepS.assign rfl) ?_
      refine TO.s rfl rfl rfl (StepS.assign rfl) ?_
      refine TO.code ?_
      cases hm
      refine TC.ret fun a w e s => ?_
      refine FRet.mk2 (P := Try.prog) (fn := Try.f32) (t := 6) (u := 7) e rfl rfl rfl ?_
      refine ⟨_, _, rfl, ⟨((rowv hs6 a2.toNat)), rfl, rfl⟩, ?_⟩
      refine s.mono fun _ s => ?_
      replace s := Sat.front 0 rfl s
      replace s := Sat.takeRow hx12 s
      exact s

set_option maxRecDepth 100000 in
theorem C11 {B : World} {L : List HP} {a0 : Int} {a1 : List (Int × Int × Int)} {a2 : Int} {h1 : Value} {r0 : Bool} (e1 : Ent L (Rd 3 h1 (a1.map cTiii))) (hm : F11 a0 a1 a2 = some r0) {w : World} (st : St B L w) : Calls Try.prog 11 #[I a0, h1, I a2] w (fun e w' => (e = .returned (.bool r0) ∧ St B (L) w')) := by
  refine calls_of (N := 54) (L := L) (args := [I a0, h1, I a2]) Try.func11 rfl rfl rfl ?_ st
  dsimp only [F11] at hm
  refine TC.k ?_
  refine TC.region ?_
  refine TO.s rfl rfl rfl (StepS.assign rfl) ?_
  refine TO.code ?_
  refine TC.k ?_
  refine TC.region ?_
  refine TO.s rfl rfl rfl (StepS.move rfl) ?_
  refine TO.s rfl rfl rfl (StepS.move rfl) ?_
  refine TO.s rfl rfl rfl (StepS.move rfl) ?_
  obtain ⟨⟨r1, r2⟩, hc3, hm⟩ := bind_some hm
  refine TO.callO kcallB_32_true rfl rfl rfl (fun _ st => C32 e1 hc3 st) ?_
  rintro _ _ ⟨v4, rfl, rfl⟩
  refine TO.s rfl rfl rfl (StepS.move rfl) ?_
  refine TO.s rfl rfl rfl (StepS.extract rfl rfl) ?_
  refine TO.s rfl rfl rfl (StepS.extract rfl rfl) ?_
  refine TO.s rfl rfl rfl (StepS.assign rfl) ?_
  refine TO.s rfl rfl rfl (StepS.assign rfl) ?_
  refine TO.code ?_
  refine TC.k ?_
  refine TC.region ?_
  refine TO.s rfl rfl rfl (StepS.move rfl) ?_
  refine TO.s rfl rfl rfl (StepS.move rfl) ?_
  obtain ⟨r6, hc7, hm⟩ := bind_some hm
  refine TO.q rfl rfl rfl (StepQ.call kcallB_16_true rfl rfl (fun _ st => C16 e1.tl hc7 st)) ?_
  refine TO.s rfl rfl rfl (StepS.assign rfl) ?_
  refine TO.code ?_
  refine TC.k ?_
  refine TC.k ?_
  refine TC.region ?_
  refine TO.s rfl rfl rfl (StepS.move rfl) ?_
  refine TO.s rfl rfl rfl (StepS.cmp rfl rfl rfl) ?_
  refine TO.s rfl rfl rfl (StepS.move rfl) ?_
  refine TO.mid1 9 31 (.bool ((r6 == 0) && ((decide (a2 < 0)) || (decide (a2 ≥ (a1.length : Int)))))) ?_ ?_
  · refine bcase ((r6 == 0)) (fun hb8 => ?_) (fun hb8 => ?_)
    · refine TO.sw rfl rfl rfl hb8 rfl rfl (StepS.move rfl) ?_
      refine TO.sw rfl rfl rfl hb8 rfl rfl (StepS.cmp rfl rfl rfl) ?_
      refine TO.sw rfl rfl rfl hb8 rfl rfl (StepS.move rfl) ?_
      refine TO.mid1 5 30 (.bool ((decide (a2 < 0)) || (decide (a2 ≥ (a1.length : Int))))) ?_ ?_
      · refine bcase ((decide (a2 < 0))) (fun hb9 => ?_) (fun hb9 => ?_)
        · refine TO.skip rfl rfl rfl (skipT hb9) rfl rfl ?_
          refine TO.skip rfl rfl rfl (skipT hb9) rfl rfl ?_
          refine TO.skip rfl rfl rfl (skipT hb9) rfl rfl ?_
          refine TO.skip rfl rfl rfl (skipT hb9) rfl rfl ?_
          refine TO.sw rfl rfl rfl hb8 rfl rfl (StepS.pickT rfl hb9 rfl) ?_
          exact TO.up1 5 0 rfl rfl (by rw [hb9]; rfl) rfl
        · refine TO.sw rfl rfl rfl hb9 rfl rfl (StepS.move rfl) ?_
          refine TO.sw rfl rfl rfl hb9 rfl rfl (StepS.move rfl) ?_
          refine TO.sw rfl rfl rfl hb9 rfl rfl (StepS.lenm rfl e1.tl ksliceB_22_58_3_true rfl) ?_
          refine TO.sw rfl rfl rfl hb9 rfl rfl (StepS.cmp rfl rfl rfl) ?_
          refine TO.sw rfl rfl rfl hb8 rfl rfl (StepS.pickF rfl hb9 rfl) ?_
          exact TO.up1 5 0 rfl rfl (by rw [hb9]; rfl) rfl
      refine TO.s rfl rfl rfl (StepS.pickT rfl hb8 rfl) ?_
      exact TO.up1 5 0 rfl rfl (by rw [hb8]; rfl) rfl
    · refine TO.skip rfl rfl rfl (skipF hb8) rfl rfl ?_
      refine TO.skip rfl rfl rfl (skipF hb8) rfl rfl ?_
      refine TO.skip rfl rfl rfl (skipF hb8) rfl rfl ?_
      refine TO.skip rfl rfl rfl skipU rfl rfl ?_
      refine TO.skip rfl rfl rfl skipU rfl rfl ?_
      refine TO.skip rfl rfl rfl skipU rfl rfl ?_
      refine TO.skip rfl rfl rfl skipU rfl rfl ?_
      refine TO.skip rfl rfl rfl (skipF hb8) rfl rfl ?_
      refine TO.s rfl rfl rfl (StepS.pickF rfl hb8 rfl) ?_
      exact TO.up1 9 0 rfl rfl (by rw [hb8]; rfl) rfl
  refine TO.code ?_
  obtain ⟨x10, hj11, hm⟩ := bind_some hm
  first | refine TC.cutM (fun a w => Mid 54 B [(0, I a0), (1, h1), (2, I a2), (7, v4), (8, I r2), (9, I x10)] (OwnS 3 1 v4 (r1.map cI) :: L) a w) ?_ ?_ | refine TC.cutX (fun a w => Mid 54 B [(0, I a0), (1, h1), (2, I a2), (7, v4), (8, I r2), (9, I x10)] (OwnS 3 1 v4 (r1.map cI) :: L) a w) ?_ ?_
  · refine TC.cond rfl (fun hc12 => ?_) (fun hc12 => ?_)
    · replace hj11 := cond_t hc12 hj11
      refine TC.region ?_
      refine TO.s rfl rfl rfl (StepS.assign rfl) ?_
      cases hj11
      refine TO.nil fun a w e s => ?_
      exact ⟨e.sub (lk_of_allIn ⟨rfl, rfl, rfl, rfl, rfl, rfl, trivial⟩), s⟩
    · replace hj11 := cond_f hc12 hj11
      cases hj11
      refine TC.skip fun a w e s => ?_
      exact ⟨e.sub (lk_of_allIn ⟨rfl, rfl, rfl, rfl, rfl, rfl, trivial⟩), s⟩
  · intro a w ⟨he, hs⟩
    refine TC.use ?_ he hs
    refine TC.k ?_
    refine TC.k ?_
    refine TC.region ?_
    refine TO.s rfl rfl rfl (StepS.move rfl) ?_
    refine TO.s rfl rfl rfl (StepS.cmp rfl rfl rfl) ?_
    refine TO.code ?_
    refine TC.cond rfl (fun hc13 => ?_) (fun hc13 => ?_)
    · replace hm := cond_t hc13 hm
      refine TC.k ?_
      refine TC.region ?_
      refine TO.s rfl rfl rfl (StepS.move rfl) ?_
      refine TO.s rfl rfl rfl (StepS.move rfl) ?_
      refine TO.s rfl rfl rfl (StepS.cmp rfl rfl rfl) ?_
      refine TO.s rfl rfl rfl (StepS.move rfl) ?_
      refine TO.mid1 4 41 (.bool ((r2 == x10) && ((r1.length : Int) == 0))) ?_ ?_
      · refine bcase ((r2 == x10)) (fun hb14 => ?_) (fun hb14 => ?_)
        · refine TO.sw rfl rfl rfl hb14 rfl rfl (StepS.move rfl) ?_
          refine TO.sw rfl rfl rfl hb14 rfl rfl (StepS.lenm rfl (OwnS.rd (Ent.at 0 rfl)) ksliceB_34_3_1_true rfl) ?_
          refine TO.sw rfl rfl rfl hb14 rfl rfl (StepS.cmp rfl rfl rfl) ?_
          refine TO.s rfl rfl rfl (StepS.pickT rfl hb14 rfl) ?_
          exact TO.up1 4 0 rfl rfl (by rw [hb14]; rfl) rfl
        · refine TO.skip rfl rfl rfl (skipF hb14) rfl rfl ?_
          refine TO.skip rfl rfl rfl (skipF hb14) rfl rfl ?_
          refine TO.skip rfl rfl rfl (skipF hb14) rfl rfl ?_
          refine TO.s rfl rfl rfl (StepS.pickF rfl hb14 rfl) ?_
          exact TO.up1 4 0 rfl rfl (by rw [hb14]; rfl) rfl
      refine TO.s rfl rfl rfl (StepS.assign rfl) ?_
      refine TO.code ?_
      cases hm
      refine TC.ret fun a w e s => ?_
      refine FRet.mk1 (P := Try.prog) (fn := Try.f11) (t := 6) e rfl rfl ?_
      exact ⟨rfl, s.mono fun _ => Sat.dropN 1⟩
    · replace hm := cond_f hc13 hm
      refine TC.skipk ?_
      refine TC.k ?_
      refine TC.region ?_
      refine TO.s rfl rfl rfl (StepS.move rfl) ?_
      refine TO.s rfl rfl rfl (StepS.cmp rfl rfl rfl) ?_
      refine TO.s rfl rfl rfl (StepS.move rfl) ?_
      obtain ⟨b16, hj17, hm⟩ := bind_some hm
      refine TO.mid1 9 53 (.bool b16) ?_ ?_
      · refine bcase ((r2 == 0)) (fun hb15 => ?_) (fun hb15 => ?_)
        · replace hj17 := cond_t hb15 hj17
          refine TO.sw rfl rfl rfl hb15 rfl rfl (StepS.move rfl) ?_
          refine TO.sw rfl rfl rfl hb15 rfl rfl (StepS.move rfl) ?_
          refine TO.sw rfl rfl rfl hb15 rfl rfl (StepS.move rfl) ?_
          refine TO.sw rfl rfl rfl hb15 rfl rfl (StepS.move rfl) ?_
          obtain ⟨r18, hc19, hj17⟩ := bind_some hj17
          refine TO.callOw rfl rfl hb15 kcallB_18_true rfl rfl rfl (fun _ st => C18 e1.tl hc19 st) ?_
          rintro v20 _ ⟨_, hs21, rfl, rfl⟩
          refine TO.sw rfl rfl rfl hb15 rfl rfl (StepS.move rfl) ?_
          obtain ⟨r23, hc24, hj17⟩ := bind_some hj17
          refine TO.callOw rfl rfl hb15 kcallB_29_true rfl rfl rfl (fun _ st => C29 e1.tl.tl (SS.rr (Ent.at 0 rfl)) hc24 st) ?_
          rintro v25 _ ⟨_, rfl, rfl⟩
          obtain ⟨r27, hc28, hj17⟩ := bind_some hj17
          refine TO.qw rfl rfl rfl hb15 rfl rfl (StepQ.call kcallB_24_true rfl rfl (fun _ st => C24 (OwnS.rd (Ent.at 2 rfl)) (OwnS.rd (Ent.at 0 rfl)) hc28 st)) ?_
          cases hj17
          refine TO.s rfl rfl rfl (StepS.pickT rfl hb15 rfl) ?_
          exact TO.up1 9 2 rfl rfl rfl rfl
        · replace hj17 := cond_f hb15 hj17
          cases hj17
          refine TO.skip rfl rfl rfl (skipF hb15) rfl rfl ?_
          refine TO.skip rfl rfl rfl (skipF hb15) rfl rfl ?_
          refine TO.skip rfl rfl rfl (skipF hb15) rfl rfl ?_
          refine TO.skip rfl rfl rfl (skipF hb15) rfl rfl ?_
          refine TO.skip rfl rfl rfl (skipF hb15) rfl rfl ?_
          refine TO.skip rfl rfl rfl (skipF hb15) rfl rfl ?_
          refine TO.skip rfl rfl rfl (skipF hb15) rfl rfl ?_
          refine TO.skip rfl rfl rfl (skipF hb15) rfl rfl ?_
          refine TO.s rfl rfl rfl (StepS.pickF rfl hb15 rfl) ?_
          exact TO.up1 9 0 rfl rfl rfl rfl
      refine TO.s rfl rfl rfl (StepS.assign rfl) ?_
      refine TO.code ?_
      cases hm
      refine TC.ret fun a w e s => ?_
      refine FRet.mk1 (P := Try.prog) (fn := Try.f11) (t := 6) e rfl rfl ?_
      exact ⟨rfl, s.mono fun _ => Sat.dropN 1⟩
end Go.Proofs.Ytmfidlalejdikaa
