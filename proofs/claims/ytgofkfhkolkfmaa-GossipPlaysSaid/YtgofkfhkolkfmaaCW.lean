/-
  The walks: each Go function returns what its model says. Written by a program (gen.py).
-/
import Derived.Test.YtgofkfhkolkfmaaProg
import Derived.KernelRfl
import Derived.Test.YtgofkfhkolkfmaaAW
import Derived.Test.YtgofkfhkolkfmaaBW
import Derived.Test.YtgofkfhkolkfmaaSK
import Derived.Test.YtgofkfhkolkfmaaCM
namespace Go.Proofs.Ytgofkfhkolkfmaa
open Go Go.Bk
set_option linter.unusedVariables false
set_option linter.unnecessarySimpa false
theorem kcallB_37_true : callB Try.prog 37 = true := by kernel_rfl
theorem kcallB_25_true : callB Try.prog 25 = true := by kernel_rfl
theorem kcallB_26_true : callB Try.prog 26 = true := by kernel_rfl
theorem kcallB_19_true : callB Try.prog 19 = true := by kernel_rfl
theorem kcallB_20_true : callB Try.prog 20 = true := by kernel_rfl
theorem kcallB_21_true : callB Try.prog 21 = true := by kernel_rfl

theorem C37 {B : World} {L : List HP} {a1 : Int} {zs : List ZH} {r0 : List (Int × Nat)} (hm : F37 a1 = some r0) {w : World} (st : St B L w) : Calls Try.prog 37 #[.slice none 0 0, I a1] w (fun e w' => ∃ v M, e = .returned v ∧ (∃ (qv1 : Value), v = qv1 ∧ M = (OwnS 44 2 qv1 (r0.map (cZ44 zs)) :: L)) ∧ St B M w') :=
  GrowKs.call (f := (cZ44 zs)) grlay hm st

set_option maxRecDepth 100000 in
theorem C25 {B : World} {L : List HP} {a0 : List (List (Int × Nat))} {h0 : Value} {k0_ : List Value} {zs : List ZH} {r0 : List (Int × Nat)} (e0 : Ent L (RR 2 (cZ44 zs) h0 k0_ a0)) (hm : F25 a0 = some r0) {w : World} (st : St B L w) : Calls Try.prog 25 #[h0] w (fun e w' => ∃ v M, e = .returned v ∧ (∃ (qv1 : Value), v = qv1 ∧ M = (OwnS 44 2 qv1 (r0.map (cZ44 zs)) :: L)) ∧ St B M w') := by
  refine calls_of (N := 36) (L := L) (args := [h0]) Try.func25 rfl rfl rfl ?_ st
  dsimp only [F25] at hm
  refine TC.k ?_
  refine TC.region ?_
  refine TO.s rfl rfl rfl (StepS.assign rfl) ?_
  refine TO.code ?_
  refine TC.k ?_
  refine TC.region ?_
  refine TO.s rfl rfl rfl (StepS.assign rfl) ?_
  refine TO.code ?_
  refine TC.k ?_
  refine TC.k ?_
  refine TC.region ?_
  refine TO.s rfl rfl rfl (StepS.move rfl) ?_
  refine TO.s rfl rfl rfl (StepS.lenRR rfl e0 ksliceB_24_34_1_true rfl) ?_
  refine TO.s rfl rfl rfl (StepS.move rfl) ?_
  refine TO.code ?_
  obtain ⟨o7, hw8, hm⟩ := bind_some hm
  refine TC.loop hw8 (fun (x2, x3) => fun a w => Mid 36 B [(0, h0), (3, I x2), (9, h0), (10, I (a0.length : Int)), (11, I x3)] (L) a w) (fun x6 => fun a w => Mid 36 B [(0, h0), (3, I x6)] (L) a w) (fun (_ : Unit) _ _ => False) ?_ ?_ ?_ ?_
  · rintro ⟨x2, x3⟩ o7r hb9 a w ⟨he, hs⟩
    dsimp only [F25_L0] at hb9
    refine TC.use ?_ he hs
    refine TC.k ?_
    refine TC.region ?_
    refine TO.s rfl rfl rfl (StepS.cmp rfl rfl rfl) ?_
    refine TO.code ?_
    refine TC.k ?_
    refine TC.cond rfl (fun hc10 => ?_) (fun hc10 => ?_)
    · replace hb9 := cond_t hc10 hb9
      refine TC.skipk ?_
      refine TC.k ?_
      refine TC.block ?_
      refine TC.k ?_
      refine TC.region ?_
      obtain ⟨x11, hx12, hb9⟩ := bind_some hb9
      refine TO.s rfl rfl rfl (StepS.idxRR rfl rfl e0 ksliceB_24_34_1_true hx12) ?_
      refine TO.s rfl rfl rfl (StepS.ldRR rfl e0 kscalB_34_true hx12) ?_
      refine TO.s rfl rfl rfl (StepS.assign rfl) ?_
      refine TO.code ?_
      refine TC.k ?_
      refine TC.region ?_
      refine TO.s rfl rfl rfl (StepS.move rfl) ?_
      refine TO.s rfl rfl rfl (StepS.move rfl) ?_
      refine TO.s rfl rfl rfl (StepS.lenm rfl (RR.row e0 hx12) ksliceB_34_44_2_true rfl) ?_
      refine TO.s rfl rfl rfl (StepS.ari rfl rfl rfl) ?_
      refine TO.s rfl rfl rfl (StepS.assign rfl) ?_
      refine TO.code ?_
      refine TC.k ?_
      refine TC.region ?_
      refine TO.s rfl rfl rfl (StepS.move rfl) ?_
      refine TO.s rfl rfl rfl (StepS.cmp rfl rfl rfl) ?_
      refine TO.code ?_
      refine TC.cond rfl (fun hc14 => ?_) (fun hc14 => ?_)
      · replace hb9 := cond_t hc14 hb9
        refine TC.region ?_
        cases hb9
      · replace hb9 := cond_f hc14 hb9
        refine TC.skipk ?_
        refine TC.region ?_
        refine TO.s rfl rfl rfl (StepS.ari rfl rfl rfl) ?_
        refine TO.s rfl rfl rfl (StepS.move rfl) ?_
        cases hb9
        refine TO.nil fun a w e s => ?_
        exact ⟨e.sub (lk_of_allIn ⟨rfl, rfl, rfl, rfl, rfl, trivial⟩), s⟩
    · replace hb9 := cond_f hc10 hb9
      cases hb9
      refine TC.exit rfl fun a w e s => ?_
      exact ⟨e.sub (lk_of_allIn ⟨rfl, rfl, trivial⟩), s⟩
  · exact fun a w e s => ⟨e.sub (lk_of_allIn ⟨rfl, rfl, rfl, rfl, rfl, trivial⟩), s⟩
  · rintro x6 rfl a w ⟨he, hs⟩
    dsimp only [Ctl.on] at hm
    refine TC.use ?_ he hs
    refine TC.k ?_
    refine TC.region ?_
    refine TO.s rfl rfl rfl (StepS.move rfl) ?_
    obtain ⟨r15, hc16, hm⟩ := bind_some hm
    refine TO.callO kcallB_37_true rfl rfl rfl (fun _ st => C37 (zs := zs)  hc16 st) ?_
    rintro v17 _ ⟨_, rfl, rfl⟩
    refine TO.s rfl rfl rfl (StepS.assign rfl) ?_
    refine TO.code ?_
    refine TC.k ?_
    refine TC.k ?_
    refine TC.region ?_
    refine TO.s rfl rfl rfl (StepS.move rfl) ?_
    refine TO.s rfl rfl rfl (StepS.lenRR rfl e0.tl ksliceB_24_34_1_true rfl) ?_
    refine TO.s rfl rfl rfl (StepS.move rfl) ?_
    refine TO.code ?_
    obtain ⟨o27, hw28, hm⟩ := bind_some hm
    refine TC.loop hw28 (fun (y19, x21) => fun a w => ∃ v20 : Value, Mid 36 B [(6, v20), (25, h0), (26, I (a0.length : Int)), (27, I x21)] (OwnS 44 2 v20 (y19.map (cZ44 zs)) :: L) a w) (fun y25 => fun a w => ∃ v26 : Value, Mid 36 B [(6, v26)] (OwnS 44 2 v26 (y25.map (cZ44 zs)) :: L) a w) (fun (_ : Unit) _ _ => False) ?_ ?_ ?_ ?_
    · rintro ⟨y19, x21⟩ o27r hb29 a w ⟨v20, he, hs⟩
      dsimp only [F25_L1] at hb29
      refine TC.use ?_ he hs
      refine TC.k ?_
      refine TC.region ?_
      refine TO.s rfl rfl rfl (StepS.cmp rfl rfl rfl) ?_
      refine TO.code ?_
      refine TC.k ?_
      refine TC.cond rfl (fun hc30 => ?_) (fun hc30 => ?_)
      · replace hb29 := cond_t hc30 hb29
        refine TC.skipk ?_
        refine TC.k ?_
        refine TC.block ?_
        refine TC.k ?_
        refine TC.region ?_
        obtain ⟨x31, hx32, hb29⟩ := bind_some hb29
        refine TO.s rfl rfl rfl (StepS.idxRR rfl rfl e0.tl ksliceB_24_34_1_true hx32) ?_
        refine TO.s rfl rfl rfl (StepS.ldRR rfl e0.tl kscalB_34_true hx32) ?_
        refine TO.s rfl rfl rfl (StepS.assign rfl) ?_
        refine TO.code ?_
        refine TC.region ?_
        refine TO.s rfl rfl rfl (StepS.move rfl) ?_
        refine TO.s rfl rfl rfl (StepS.move rfl) ?_
        obtain ⟨y34, hk35, hb29⟩ := bind_some hb29
        refine TO.app (k := 0) (f := (cZ44 zs)) kelemB_34_44_2_32_true (by decide) rfl rfl rfl (RR.row e0.tl hx32) hk35 (fun x c hc => by simp [Value.oneCell'] at hc ⊢; first | (obtain rfl := hc; rfl) | (rcases hc with rfl | rfl <;> rfl)) rfl rfl fun v36 => ?_
        refine TO.s rfl rfl rfl (StepS.assign rfl) ?_
        refine TO.code ?_
        refine TC.region ?_
        refine TO.s rfl rfl rfl (StepS.ari rfl rfl rfl) ?_
        refine TO.s rfl rfl rfl (StepS.move rfl) ?_
        cases hb29
        refine TO.nil fun a w e s => ?_
        exact ⟨v36, e.sub (lk_of_allIn ⟨rfl, rfl, rfl, rfl, trivial⟩), s⟩
      · replace hb29 := cond_f hc30 hb29
        cases hb29
        refine TC.exit rfl fun a w e s => ?_
        exact ⟨v20, e.sub (lk_of_allIn ⟨rfl, trivial⟩), s⟩
    · exact fun a w e s => ⟨v17, e.sub (lk_of_allIn ⟨rfl, rfl, rfl, rfl, trivial⟩), s⟩
    · rintro y25 rfl a w ⟨v26, he, hs⟩
      dsimp only [Ctl.on] at hm
      refine TC.use ?_ he hs
      refine TC.k ?_
      refine TC.region ?_
      refine TO.s rfl rfl rfl (StepS.move rfl) ?_
      refine TO.s rfl rfl rfl (StepS.assign rfl) ?_
      refine TO.code ?_
      cases hm
      refine TC.ret fun a w e s => ?_
      refine FRet.mk1 (P := Try.prog) (fn := Try.f25) (t := 2) e rfl rfl ?_
      refine ⟨_, _, rfl, ⟨(v26), rfl, rfl⟩, ?_⟩
      refine s.mono fun _ s => ?_
      replace s := Sat.front 0 rfl s
      exact s
    · rintro r rfl
      exact fun a w h => h.elim
  · rintro r rfl
    exact fun a w h => h.elim

set_option maxRecDepth 100000 in
theorem C20 {B : World} {L : List HP} {a0 : List (List (Int × Nat))} {a1 : Int} {a2 : Int} {zp : List (List Int)} {b0_ : Nat} {u0_1 : Value} {h0_1 : Value} {h0_2 : List Value} {z0 zs : List ZH} {s0 : List (List (Int × Nat))} (ez : Ent L (PZ 3 1 cI z0 zs zp)) (hm : F20 a0 a1 a2 zp = some s0) {w : World} (st : St B (Bx b0_ 39 [h0_1, u0_1] :: SS 34 44 2 (cZ44 zs) h0_1 h0_2 (a0) :: L) w) : Calls Try.prog 20 #[.pointer (some ⟨b0_, 0, none⟩), I a1, I a2] w (fun e w' => ∃ v M, e = .returned v ∧ (∃ (qhs1 : List Value), v = .tuple #[] ∧ M = (Bx b0_ 39 [h0_1, u0_1] :: SS 34 44 2 (cZ44 zs) h0_1 qhs1 (s0) :: L)) ∧ St B M w') := by
  refine calls_of (N := 89) (L := (Bx b0_ 39 [h0_1, u0_1] :: SS 34 44 2 (cZ44 zs) h0_1 h0_2 (a0) :: L)) (args := [.pointer (some ⟨b0_, 0, none⟩), I a1, I a2]) Try.func20 rfl rfl rfl ?_ st
  dsimp only [F20] at hm
  refine TC.k ?_
  refine TC.region_tail 14 kfollows_mixedOrders_true (by kernel_rfl) ?_
  refine TS.s rfl rfl rfl (StepS.move rfl) ?_
  refine TS.s rfl rfl rfl (StepS.nilc rfl) ?_
  refine TS.s rfl rfl rfl (StepS.fld rfl kfieldB_39_0_0_true) ?_
  refine TS.s rfl rfl rfl (StepS.ldB rfl (Ent.at 0 rfl) kscalB_24_true rfl) ?_
  refine TS.s rfl rfl rfl (StepS.move rfl) ?_
  obtain ⟨x3, hx4, hm⟩ := bind_some hm
  refine TS.s rfl rfl rfl (StepS.idxRR rfl rfl (SS.rr (Ent.at 1 rfl)) ksliceB_24_34_1_true hx4) ?_
  refine TS.s rfl rfl rfl (StepS.ldRR rfl (SS.rr (Ent.at 1 rfl)) kscalB_34_true hx4) ?_
  refine TS.s rfl rfl rfl (StepS.move rfl) ?_
  refine TS.s rfl rfl rfl (StepS.nilc rfl) ?_
  refine TS.s rfl rfl rfl (StepS.fld rfl kfieldB_39_0_0_true) ?_
  refine TS.s rfl rfl rfl (StepS.ldB rfl (Ent.at 0 rfl) kscalB_24_true rfl) ?_
  refine TS.s rfl rfl rfl (StepS.move rfl) ?_
  obtain ⟨x6, hx7, hm⟩ := bind_some hm
  refine TS.s rfl rfl rfl (StepS.idxRR rfl rfl (SS.rr (Ent.at 1 rfl)) ksliceB_24_34_1_true hx7) ?_
  refine TS.s rfl rfl rfl (StepS.ldRR rfl (SS.rr (Ent.at 1 rfl)) kscalB_34_true hx7) ?_
  refine TS.nil ?_
  refine TO.at ?_
  refine TO.lit2H rfl rfl (RR.row (SS.rr (Ent.at 1 rfl)) hx4) (RR.row (SS.rr (Ent.at 1 rfl)) hx7) kelemB_24_34_1_24_true rfl fun v9 => ?_
  obtain ⟨r11, hc12, hm⟩ := bind_some hm
  refine TO.callO kcallB_25_true rfl rfl rfl (fun _ st => C25 (zs := zs) (RR.lit2 (Ent.at 0 rfl) (RR.row (SS.rr (Ent.at 2 rfl)) hx4) (RR.row (SS.rr (Ent.at 2 rfl)) hx7)) hc12 st) ?_
  rintro v13 _ ⟨_, rfl, rfl⟩
  refine TO.s rfl rfl rfl (StepS.assign rfl) ?_
  refine TO.code ?_
  refine TC.k ?_
  refine TC.region ?_
  refine TO.s rfl rfl rfl (StepS.assign rfl) ?_
  refine TO.code ?_
  refine TC.k ?_
  refine TC.k ?_
  refine TC.region ?_
  refine TO.s rfl rfl rfl (StepS.move rfl) ?_
  refine TO.s rfl rfl rfl (StepS.lenm rfl (OwnS.rd (Ent.at 0 rfl)) ksliceB_34_44_2_true rfl) ?_
  refine TO.s rfl rfl rfl (StepS.move rfl) ?_
  refine TO.code ?_
  obtain ⟨o26, hw27, hm⟩ := bind_some hm
  refine TC.loop hw27 (fun (y17, x18) => fun a w => ∃ v15 : Value, Mid 89 B [(0, .pointer (some ⟨b0_, 0, none⟩)), (2, I a2), (6, v13), (7, v15), (31, v13), (32, I (r11.length : Int)), (33, I x18)] (OwnS 44 2 v15 (y17.map (cZ44 zs)) :: OwnS 44 2 v13 (r11.map (cZ44 zs)) :: OwnS 34 1 v9 ([(rowv h0_2 a2.toNat), (rowv h0_2 a1.toNat)].map hd1) :: Bx b0_ 39 [h0_1, u0_1] :: SS 34 44 2 (cZ44 zs) h0_1 h0_2 (a0) :: L) a w) (fun y25 => fun a w => ∃ v23 : Value, Mid 89 B [(0, .pointer (some ⟨b0_, 0, none⟩)), (2, I a2), (7, v23)] (OwnS 44 2 v23 (y25.map (cZ44 zs)) :: OwnS 44 2 v13 (r11.map (cZ44 zs)) :: OwnS 34 1 v9 ([(rowv h0_2 a2.toNat), (rowv h0_2 a1.toNat)].map hd1) :: Bx b0_ 39 [h0_1, u0_1] :: SS 34 44 2 (cZ44 zs) h0_1 h0_2 (a0) :: L) a w) (fun (_ : Unit) _ _ => False) ?_ ?_ ?_ ?_
  · rintro ⟨y17, x18⟩ o26r hb28 a w ⟨v15, he, hs⟩
    dsimp only [F20_L0] at hb28
    refine TC.use ?_ he hs
    refine TC.k ?_
    refine TC.region ?_
    refine TO.s rfl rfl rfl (StepS.cmp rfl rfl rfl) ?_
    refine TO.code ?_
    refine TC.k ?_
    refine TC.cond rfl (fun hc29 => ?_) (fun hc29 => ?_)
    · replace hb28 := cond_t hc29 hb28
      refine TC.skipk ?_
      refine TC.k ?_
      obtain ⟨y30, hj32, hb28⟩ := bind_some hb28
      first | refine TC.cutM (fun a w => ∃ v31 : Value, Mid 89 B [(0, .pointer (some ⟨b0_, 0, none⟩)), (2, I a2), (6, v13), (7, v31), (31, v13), (32, I (r11.length : Int)), (33, I x18)] (OwnS 44 2 v31 (y30.map (cZ44 zs)) :: OwnS 44 2 v13 (r11.map (cZ44 zs)) :: OwnS 34 1 v9 ([(rowv h0_2 a2.toNat), (rowv h0_2 a1.toNat)].map hd1) :: Bx b0_ 39 [h0_1, u0_1] :: SS 34 44 2 (cZ44 zs) h0_1 h0_2 (a0) :: L) a w) ?_ ?_ | refine TC.cutX (fun a w => ∃ v31 : Value, Mid 89 B [(0, .pointer (some ⟨b0_, 0, none⟩)), (2, I a2), (6, v13), (7, v31), (31, v13), (32, I (r11.length : Int)), (33, I x18)] (OwnS 44 2 v31 (y30.map (cZ44 zs)) :: OwnS 44 2 v13 (r11.map (cZ44 zs)) :: OwnS 34 1 v9 ([(rowv h0_2 a2.toNat), (rowv h0_2 a1.toNat)].map hd1) :: Bx b0_ 39 [h0_1, u0_1] :: SS 34 44 2 (cZ44 zs) h0_1 h0_2 (a0) :: L) a w) ?_ ?_
      · refine TC.block ?_
        refine TC.k ?_
        refine TC.region ?_
        refine TO.s rfl rfl rfl (StepS.move rfl) ?_
        obtain ⟨x33, hx34, hj32⟩ := bind_some hj32
        refine TO.s rfl rfl rfl (StepS.idx rfl rfl (OwnS.rd (Ent.at 1 rfl)) ksliceB_34_44_2_true (idx_spec hx34).1 (idxm_lt hx34)) ?_
        refine TO.s rfl rfl rfl (StepS.ldE rfl (OwnS.rd (Ent.at 1 rfl)) kaggB_44_2_true rfl (idxm hx34)) ?_
        refine TO.alloc kinfo_44_bind_zero_some_agg_I_0_slice_none_0_0 rfl rfl fun b35 => ?_
        refine TO.s rfl rfl rfl (StepS.assign rfl) ?_
        refine TO.stB (us := [I x33.1, zv zs x33.2]) 0 [I x33.1, zv zs x33.2] rfl rfl rfl ksizeB_44_2_true rfl rfl rfl (by simp [Value.oneCell']) rfl ?_
        refine TO.code ?_
        refine TC.k ?_
        refine TC.region ?_
        refine TO.s rfl rfl rfl (StepS.assign rfl) ?_
        refine TO.code ?_
        refine TC.k ?_
        refine TC.k ?_
        refine TC.region ?_
        refine TO.s rfl rfl rfl (StepS.move rfl) ?_
        refine TO.s rfl rfl rfl (StepS.lenm rfl (OwnS.rd (Ent.at 2 rfl)) ksliceB_34_44_2_true rfl) ?_
        refine TO.s rfl rfl rfl (StepS.move rfl) ?_
        refine TO.code ?_
        obtain ⟨o41, hw42, hj32⟩ := bind_some hj32
        refine TC.loop hw42 (fun (b36, x37) => fun a w => Mid 89 B [(0, .pointer (some ⟨b0_, 0, none⟩)), (2, I a2), (6, v13), (7, v15), (8, I x18), (9, .pointer (some ⟨b35, 0, none⟩)), (10, .bool b36), (31, v13), (32, I (r11.length : Int)), (33, I x18), (38, v13), (39, I (r11.length : Int)), (40, I x37)] (Bx b35 44 [I x33.1, zv zs x33.2] :: OwnS 44 2 v15 (y17.map (cZ44 zs)) :: OwnS 44 2 v13 (r11.map (cZ44 zs)) :: OwnS 34 1 v9 ([(rowv h0_2 a2.toNat), (rowv h0_2 a1.toNat)].map hd1) :: Bx b0_ 39 [h0_1, u0_1] :: SS 34 44 2 (cZ44 zs) h0_1 h0_2 (a0) :: L) a w) (fun b40 => fun a w => Mid 89 B [(0, .pointer (some ⟨b0_, 0, none⟩)), (2, I a2), (6, v13), (7, v15), (9, .pointer (some ⟨b35, 0, none⟩)), (10, .bool b40), (31, v13), (32, I (r11.length : Int)), (33, I x18)] (Bx b35 44 [I x33.1, zv zs x33.2] :: OwnS 44 2 v15 (y17.map (cZ44 zs)) :: OwnS 44 2 v13 (r11.map (cZ44 zs)) :: OwnS 34 1 v9 ([(rowv h0_2 a2.toNat), (rowv h0_2 a1.toNat)].map hd1) :: Bx b0_ 39 [h0_1, u0_1] :: SS 34 44 2 (cZ44 zs) h0_1 h0_2 (a0) :: L) a w) (fun (_ : Unit) _ _ => False) ?_ ?_ ?_ ?_
        · rintro ⟨b36, x37⟩ o41r hb43 a w ⟨he, hs⟩
          dsimp only [F20_L1] at hb43
          refine TC.use ?_ he hs
          refine TC.k ?_
          refine TC.region ?_
          refine TO.s rfl rfl rfl (StepS.cmp rfl rfl rfl) ?_
          refine TO.code ?_
          refine TC.k ?_
          refine TC.cond rfl (fun hc44 => ?_) (fun hc44 => ?_)
          · replace hb43 := cond_t hc44 hb43
            refine TC.skipk ?_
            refine TC.k ?_
            refine TC.block ?_
            refine TC.k ?_
            refine TC.region ?_
            refine TO.s rfl rfl rfl (StepS.move rfl) ?_
            obtain ⟨x45, hx46, hb43⟩ := bind_some hb43
            refine TO.s rfl rfl rfl (StepS.idx rfl rfl (OwnS.rd (Ent.at 2 rfl)) ksliceB_34_44_2_true (idx_spec hx46).1 (idxm_lt hx46)) ?_
            refine TO.s rfl rfl rfl (StepS.ldE rfl (OwnS.rd (Ent.at 2 rfl)) kaggB_44_2_true rfl (idxm hx46)) ?_
            refine TO.alloc kinfo_44_bind_zero_some_agg_I_0_slice_none_0_0 rfl rfl fun b47 => ?_
            refine TO.s rfl rfl rfl (StepS.assign rfl) ?_
            refine TO.stB (us := [I x45.1, zv zs x45.2]) 0 [I x45.1, zv zs x45.2] rfl rfl rfl ksizeB_44_2_true rfl rfl rfl (by simp [Value.oneCell']) rfl ?_
            refine TO.code ?_
            refine TC.k ?_
            refine TC.region ?_
            refine TO.s rfl rfl rfl (StepS.fld rfl kfieldB_44_1_1_true) ?_
            obtain ⟨l48, hz49, hb43⟩ := bind_some hb43
            refine TO.s rfl rfl rfl (StepS.ldB rfl (Ent.at 1 rfl) kscalB_37_true rfl) ?_
            refine TO.s rfl rfl rfl (StepS.fld rfl kfieldB_44_1_1_true) ?_
            obtain ⟨l50, hz51, hb43⟩ := bind_some hb43
            refine TO.s rfl rfl rfl (StepS.ldB rfl (Ent.at 0 rfl) kscalB_37_true rfl) ?_
            obtain ⟨r52, hc53, hb43⟩ := bind_some hb43
            refine TO.q rfl rfl rfl (StepQ.call kcallB_26_true rfl rfl (fun _ st => C26 (PZ.rd ez.tl.tl.tl.tl.tl.tl.tl hz49) (PZ.rd ez.tl.tl.tl.tl.tl.tl.tl hz51) hc53 st)) ?_
            refine TO.s rfl rfl rfl (StepS.assign rfl) ?_
            refine TO.code ?_
            refine TC.k ?_
            refine TC.region ?_
            refine TO.s rfl rfl rfl (StepS.move rfl) ?_
            refine TO.s rfl rfl rfl (StepS.move rfl) ?_
            obtain ⟨b55, hj56, hb43⟩ := bind_some hb43
            refine TO.mid1 6 57 (.bool b55) ?_ ?_
            · refine bcase (r52) (fun hb54 => ?_) (fun hb54 => ?_)
              · replace hj56 := cond_t hb54 hj56
                refine TO.sw rfl rfl rfl hb54 rfl rfl (StepS.fld rfl kfieldB_44_1_1_true) ?_
                obtain ⟨l57, hz58, hj56⟩ := bind_some hj56
                refine TO.sw rfl rfl rfl hb54 rfl rfl (StepS.ldB rfl (Ent.at 0 rfl) kscalB_37_true rfl) ?_
                refine TO.sw rfl rfl rfl hb54 rfl rfl (StepS.fld rfl kfieldB_44_1_1_true) ?_
                obtain ⟨l59, hz60, hj56⟩ := bind_some hj56
                refine TO.sw rfl rfl rfl hb54 rfl rfl (StepS.ldB rfl (Ent.at 1 rfl) kscalB_37_true rfl) ?_
                obtain ⟨r61, hc62, hj56⟩ := bind_some hj56
                refine TO.qw rfl rfl rfl hb54 rfl rfl (StepQ.call kcallB_26_true rfl rfl (fun _ st => C26 (PZ.rd ez.tl.tl.tl.tl.tl.tl.tl hz58) (PZ.rd ez.tl.tl.tl.tl.tl.tl.tl hz60) hc62 st)) ?_
                cases hj56
                refine TO.s rfl rfl rfl (StepS.pickT rfl hb54 rfl) ?_
                exact TO.up1 6 0 rfl rfl rfl rfl
              · replace hj56 := cond_f hb54 hj56
                cases hj56
                refine TO.skip rfl rfl rfl (skipF hb54) rfl rfl ?_
                refine TO.skip rfl rfl rfl (skipF hb54) rfl rfl ?_
                refine TO.skip rfl rfl rfl (skipF hb54) rfl rfl ?_
                refine TO.skip rfl rfl rfl (skipF hb54) rfl rfl ?_
                refine TO.skip rfl rfl rfl (skipF hb54) rfl rfl ?_
                refine TO.s rfl rfl rfl (StepS.pickF rfl hb54 rfl) ?_
                exact TO.up1 6 0 rfl rfl rfl rfl
            refine TO.s rfl rfl rfl (StepS.assign rfl) ?_
            refine TO.code ?_
            refine TC.region ?_
            refine TO.s rfl rfl rfl (StepS.move rfl) ?_
            refine TO.s rfl rfl rfl (StepS.move rfl) ?_
            refine TO.mid1 6 65 (.bool (b36 || (r52 && (!b55)))) ?_ ?_
            · refine bcase (b36) (fun hb63 => ?_) (fun hb63 => ?_)
              · refine TO.skip rfl rfl rfl (skipT hb63) rfl rfl ?_
                refine TO.skip rfl rfl rfl (skipT hb63) rfl rfl ?_
                refine TO.skip rfl rfl rfl skipU rfl rfl ?_
                refine TO.skip rfl rfl rfl skipU rfl rfl ?_
                refine TO.skip rfl rfl rfl (skipT hb63) rfl rfl ?_
                refine TO.s rfl rfl rfl (StepS.pickT rfl hb63 rfl) ?_
                exact TO.up1 6 0 rfl rfl (by rw [hb63]; rfl) rfl
              · refine TO.sw rfl rfl rfl hb63 rfl rfl (StepS.move rfl) ?_
                refine TO.sw rfl rfl rfl hb63 rfl rfl (StepS.move rfl) ?_
                refine TO.mid1 3 64 (.bool (r52 && (!b55))) ?_ ?_
                · refine bcase (r52) (fun hb64 => ?_) (fun hb64 => ?_)
                  · refine TO.sw rfl rfl rfl hb64 rfl rfl (StepS.move rfl) ?_
                    refine TO.sw rfl rfl rfl hb64 rfl rfl (StepS.not rfl) ?_
                    refine TO.sw rfl rfl rfl hb63 rfl rfl (StepS.pickT rfl hb64 rfl) ?_
                    exact TO.up1 3 0 rfl rfl (by rw [hb64]; rfl) rfl
                  · refine TO.skip rfl rfl rfl (skipF hb64) rfl rfl ?_
                    refine TO.skip rfl rfl rfl (skipF hb64) rfl rfl ?_
                    refine TO.sw rfl rfl rfl hb63 rfl rfl (StepS.pickF rfl hb64 rfl) ?_
                    exact TO.up1 3 0 rfl rfl (by rw [hb64]; rfl) rfl
                refine TO.s rfl rfl rfl (StepS.pickF rfl hb63 rfl) ?_
                exact TO.up1 4 0 rfl rfl (by rw [hb63]; rfl) rfl
            refine TO.s rfl rfl rfl (StepS.move rfl) ?_
            refine TO.mid1 7 73 (.bool ((b36 || (r52 && (!b55))) || (b55 && (decide (x37 < x18))))) ?_ ?_
            · refine bcase ((b36 || (r52 && (!b55)))) (fun hb65 => ?_) (fun hb65 => ?_)
              · refine TO.skip rfl rfl rfl (skipT hb65) rfl rfl ?_
                refine TO.skip rfl rfl rfl (skipT hb65) rfl rfl ?_
                refine TO.skip rfl rfl rfl skipU rfl rfl ?_
                refine TO.skip rfl rfl rfl skipU rfl rfl ?_
                refine TO.skip rfl rfl rfl skipU rfl rfl ?_
                refine TO.skip rfl rfl rfl (skipT hb65) rfl rfl ?_
                refine TO.s rfl rfl rfl (StepS.pickT rfl hb65 rfl) ?_
                exact TO.up1 7 0 rfl rfl (by rw [hb65]; rfl) rfl
              · refine TO.sw rfl rfl rfl hb65 rfl rfl (StepS.move rfl) ?_
                refine TO.sw rfl rfl rfl hb65 rfl rfl (StepS.move rfl) ?_
                refine TO.mid1 4 72 (.bool (b55 && (decide (x37 < x18)))) ?_ ?_
                · refine bcase (b55) (fun hb66 => ?_) (fun hb66 => ?_)
                  · refine TO.sw rfl rfl rfl hb66 rfl rfl (StepS.move rfl) ?_
                    refine TO.sw rfl rfl rfl hb66 rfl rfl (StepS.move rfl) ?_
                    refine TO.sw rfl rfl rfl hb66 rfl rfl (StepS.cmp rfl rfl rfl) ?_
                    refine TO.sw rfl rfl rfl hb65 rfl rfl (StepS.pickT rfl hb66 rfl) ?_
                    exact TO.up1 4 0 rfl rfl (by rw [hb66]; rfl) rfl
                  · refine TO.skip rfl rfl rfl (skipF hb66) rfl rfl ?_
                    refine TO.skip rfl rfl rfl (skipF hb66) rfl rfl ?_
                    refine TO.skip rfl rfl rfl (skipF hb66) rfl rfl ?_
                    refine TO.sw rfl rfl rfl hb65 rfl rfl (StepS.pickF rfl hb66 rfl) ?_
                    exact TO.up1 4 0 rfl rfl (by rw [hb66]; rfl) rfl
                refine TO.s rfl rfl rfl (StepS.pickF rfl hb65 rfl) ?_
                exact TO.up1 4 0 rfl rfl (by rw [hb65]; rfl) rfl
            refine TO.s rfl rfl rfl (StepS.assign rfl) ?_
            refine TO.code ?_
            refine TC.region ?_
            refine TO.s rfl rfl rfl (StepS.ari rfl rfl rfl) ?_
            refine TO.s rfl rfl rfl (StepS.move rfl) ?_
            cases hb43
            refine TO.nil fun a w e s => ?_
            exact ⟨e.sub (lk_of_allIn ⟨rfl, rfl, rfl, rfl, rfl, rfl, rfl, rfl, rfl, rfl, rfl, rfl, rfl, trivial⟩), s.mono fun _ => Sat.dropN 1⟩
          · replace hb43 := cond_f hc44 hb43
            cases hb43
            refine TC.exit rfl fun a w e s => ?_
            exact ⟨e.sub (lk_of_allIn ⟨rfl, rfl, rfl, rfl, rfl, rfl, rfl, rfl, rfl, trivial⟩), s⟩
        · exact fun a w e s => ⟨e.sub (lk_of_allIn ⟨rfl, rfl, rfl, rfl, rfl, rfl, rfl, rfl, rfl, rfl, rfl, rfl, rfl, trivial⟩), s⟩
        · rintro b40 rfl a w ⟨he, hs⟩
          dsimp only [Ctl.on] at hj32
          refine TC.use ?_ he hs
          refine TC.k ?_
          refine TC.region ?_
          refine TO.s rfl rfl rfl (StepS.move rfl) ?_
          refine TO.s rfl rfl rfl (StepS.not rfl) ?_
          refine TO.code ?_
          refine TC.cond rfl (fun hc67 => ?_) (fun hc67 => ?_)
          · replace hj32 := cond_t hc67 hj32
            refine TC.region ?_
            refine TO.s rfl rfl rfl (StepS.move rfl) ?_
            refine TO.s rfl rfl rfl (StepS.ldBA rfl (Ent.at 0 rfl) kaggB_44_2_true rfl rfl) ?_
            refine TO.litS (f := (cZ44 zs)) ([(x33.1, x33.2)] : List (Int × Nat)) kelemB_34_44_2_32_true kinfo_44_bind_zero_some_agg_I_0_slice_none_0_0 rfl rfl (fun _ => rfl) rfl rfl (by kernel_rfl) rfl fun v68 => ?_
            obtain ⟨y70, hk71, hj32⟩ := bind_some hj32
            refine TO.app (k := 2) (f := (cZ44 zs)) kelemB_34_44_2_32_true (by decide) rfl rfl rfl (OwnS.rd (Ent.at 0 rfl)) hk71 (fun x c hc => by simp [Value.oneCell'] at hc ⊢; first | (obtain rfl := hc; rfl) | (rcases hc with rfl | rfl <;> rfl)) rfl rfl fun v72 => ?_
            refine TO.s rfl rfl rfl (StepS.assign rfl) ?_
            cases hj32
            refine TO.nil fun a w e s => ?_
            exact ⟨v72, e.sub (lk_of_allIn ⟨rfl, rfl, rfl, rfl, rfl, rfl, rfl, trivial⟩), s.mono fun _ => Sat.dropN 2⟩
          · replace hj32 := cond_f hc67 hj32
            cases hj32
            refine TC.skip fun a w e s => ?_
            exact ⟨v15, e.sub (lk_of_allIn ⟨rfl, rfl, rfl, rfl, rfl, rfl, rfl, trivial⟩), s.mono fun _ => Sat.dropN 1⟩
        · rintro r rfl
          exact fun a w h => h.elim
      · intro a w ⟨v31, he, hs⟩
        refine TC.use ?_ he hs
        refine TC.region ?_
        refine TO.s rfl rfl rfl (StepS.ari rfl rfl rfl) ?_
        refine TO.s rfl rfl rfl (StepS.move rfl) ?_
        cases hb28
        refine TO.nil fun a w e s => ?_
        exact ⟨v31, e.sub (lk_of_allIn ⟨rfl, rfl, rfl, rfl, rfl, rfl, rfl, trivial⟩), s⟩
    · replace hb28 := cond_f hc29 hb28
      cases hb28
      refine TC.exit rfl fun a w e s => ?_
      exact ⟨v15, e.sub (lk_of_allIn ⟨rfl, rfl, rfl, trivial⟩), s⟩
  · exact fun a w e s => ⟨.slice none 0 0, e.sub (lk_of_allIn ⟨rfl, rfl, rfl, rfl, rfl, rfl, rfl, trivial⟩), s.mono fun _ s => (by replace s := Sat.nilS (e := 44) (sz := 2) (f := (cZ44 zs)) s; exact Sat.by [4, 4, 4, 4, 4] 5 0 (by kernel_rfl) s)⟩
  · rintro y25 rfl a w ⟨v23, he, hs⟩
    dsimp only [Ctl.on] at hm
    refine TC.use ?_ he hs
    refine TC.region ?_
    refine TO.s rfl rfl rfl (StepS.move rfl) ?_
    refine TO.s rfl rfl rfl (StepS.nilc rfl) ?_
    refine TO.s rfl rfl rfl (StepS.fld rfl kfieldB_39_0_0_true) ?_
    refine TO.s rfl rfl rfl (StepS.ldB rfl (Ent.at 3 rfl) kscalB_24_true rfl) ?_
    refine TO.s rfl rfl rfl (StepS.move rfl) ?_
    refine TO.s rfl rfl rfl (StepS.move rfl) ?_
    obtain ⟨x73, hx74, hm⟩ := bind_some hm
    refine TO.s rfl rfl rfl (StepS.idxRR rfl rfl (SS.rr (Ent.at 4 rfl)) ksliceB_24_34_1_true hx74) ?_
    refine TO.ghost (fun _ s => Sat.front 4 rfl s) ?_
    refine TO.stRow (xs := y25) rfl rfl hx74 ksizeB_34_1_true ?_
    cases hm
    refine TO.nil fun a w e s => ?_
    refine FRet.mk0 (P := Try.prog) (fn := Try.f20) e rfl ?_
    refine ⟨_, _, rfl, ⟨((h0_2.set a2.toNat v23)), rfl, rfl⟩, ?_⟩
    refine s.mono fun _ s => ?_
    replace s := Sat.front 0 rfl s
    replace s := Sat.front 3 rfl s
    replace s := Sat.erase 2 s
    replace s := Sat.erase 2 s
    exact s
  · rintro r rfl
    exact fun a w h => h.elim

set_option maxRecDepth 100000 in
theorem C9 {B : World} {L : List HP} {a0 : (List (List (Int × Nat))) × List Int} {a1 : Int × Int × Int × Int} {zp : List (List Int)} {b0_ : Nat} {h0_1 : Value} {h0_2 : List Value} {h0_3 : Value} {z0 zs : List ZH} {r0 : Int} {s0 : (List (List (Int × Nat))) × List Int} {s1 : List (List Int)} (hm : F9 a0 a1 zp = some (r0, s0, s1)) {w : World} (st : St B (Bx b0_ 39 [h0_1, h0_3] :: SS 34 44 2 (cZ44 zs) h0_1 h0_2 (a0.1) :: OwnS 3 1 h0_3 (a0.2.map cI) :: PZ 3 1 cI z0 zs zp :: L) w) : Calls Try.prog 9 #[.pointer (some ⟨b0_, 0, none⟩), .agg (cTiiii a1).toArray] w (fun e w' => ∃ v M, e = .returned v ∧ (∃ (qhs1 : List Value) (zs : List ZH), v = I r0 ∧ M = (Bx b0_ 39 [h0_1, h0_3] :: SS 34 44 2 (cZ44 zs) h0_1 qhs1 (s0.1) :: OwnS 3 1 h0_3 (s0.2.map cI) :: PZ 3 1 cI z0 zs s1 :: L)) ∧ St B M w') := by
  refine calls_of (N := 57) (L := (Bx b0_ 39 [h0_1, h0_3] :: SS 34 44 2 (cZ44 zs) h0_1 h0_2 (a0.1) :: OwnS 3 1 h0_3 (a0.2.map cI) :: PZ 3 1 cI z0 zs zp :: L)) (args := [.pointer (some ⟨b0_, 0, none⟩), .agg (cTiiii a1).toArray]) Try.func9 rfl rfl rfl ?_ st
  dsimp only [F9] at hm
  refine TC.k ?_
  refine TC.region ?_
  refine TO.box (cs := [.pointer (some ⟨b0_, 0, none⟩)]) rfl rfl rfl fun b5 => ?_
  refine TO.box (cs := [I a1.1, I a1.2.1, I a1.2.2.1, I a1.2.2.2]) rfl rfl rfl fun b6 => ?_
  refine TO.s rfl rfl rfl (StepS.assign rfl) ?_
  refine TO.code ?_
  refine TC.k ?_
  refine TC.region ?_
  refine TO.s rfl rfl rfl (StepS.mkfn rfl) ?_
  refine TO.s rfl rfl rfl (StepS.assign rfl) ?_
  refine TO.code ?_
  refine TC.k ?_
  refine TC.block ?_
  refine TC.k ?_
  refine TC.region ?_
  refine TO.s rfl rfl rfl (StepS.fld rfl kfieldB_41_0_0_true) ?_
  refine TO.s rfl rfl rfl (StepS.ldB rfl (Ent.at 0 rfl) kscalB_3_true rfl) ?_
  refine TO.s rfl rfl rfl (StepS.cmp rfl rfl rfl) ?_
  refine TO.s rfl rfl rfl (StepS.move rfl) ?_
  refine TO.mid1 4 15 (.bool ((a1.1 != 1) && (a1.1 != 2))) ?_ ?_
  · refine bcase ((a1.1 != 1)) (fun hb7 => ?_) (fun hb7 => ?_)
    · refine TO.sw rfl rfl rfl hb7 rfl rfl (StepS.fld rfl kfieldB_41_0_0_true) ?_
      refine TO.sw rfl rfl rfl hb7 rfl rfl (StepS.ldB rfl (Ent.at 0 rfl) kscalB_3_true rfl) ?_
      refine TO.sw rfl rfl rfl hb7 rfl rfl (StepS.cmp rfl rfl rfl) ?_
      refine TO.s rfl rfl rfl (StepS.pickT rfl hb7 rfl) ?_
      exact TO.up1 4 0 rfl rfl (by rw [hb7]; rfl) rfl
    · refine TO.skip rfl rfl rfl (skipF hb7) rfl rfl ?_
      refine TO.skip rfl rfl rfl (skipF hb7) rfl rfl ?_
      refine TO.skip rfl rfl rfl (skipF hb7) rfl rfl ?_
      refine TO.s rfl rfl rfl (StepS.pickF rfl hb7 rfl) ?_
      exact TO.up1 4 0 rfl rfl (by rw [hb7]; rfl) rfl
  refine TO.s rfl rfl rfl (StepS.assign rfl) ?_
  refine TO.code ?_
  refine TC.cond rfl (fun hc8 => ?_) (fun hc8 => ?_)
  · replace hm := cond_t hc8 hm
    refine TC.k ?_
    refine TC.region ?_
    refine TO.s rfl rfl rfl (StepS.assign rfl) ?_
    refine TO.code ?_
    cases hm
    refine TC.ret fun a w e s => ?_
    refine FRet.mk1 (P := Try.prog) (fn := Try.f9) (t := 4) e rfl rfl ?_
    refine ⟨_, _, rfl, ⟨(h0_2), zs, rfl, rfl⟩, ?_⟩
    refine s.mono fun _ s => ?_
    replace s := Sat.front 5 rfl s
    replace s := Sat.front 5 rfl s
    replace s := Sat.front 5 rfl s
    replace s := Sat.front 5 rfl s
    replace s := Sat.erase 4 s
    replace s := Sat.erase 4 s
    exact s
  · replace hm := cond_f hc8 hm
    refine TC.k ?_
    refine TC.region ?_
    refine TO.s rfl rfl rfl (StepS.move rfl) ?_
    refine TO.s rfl rfl rfl (StepS.fld rfl kfieldB_41_1_1_true) ?_
    refine TO.s rfl rfl rfl (StepS.ldB rfl (Ent.at 0 rfl) kscalB_3_true rfl) ?_
    obtain ⟨r9, hc10, hm⟩ := bind_some hm
    refine TO.q rfl rfl rfl (StepQ.callC kcallB_19_true rfl rfl rfl (fun _ st => C19 (Ent.at 1 rfl) (Ent.at 2 rfl) (RR.hd (SS.rr (Ent.at 3 rfl))) hc10 st)) ?_
    refine TO.s rfl rfl rfl (StepS.move rfl) ?_
    obtain ⟨b12, hj13, hm⟩ := bind_some hm
    refine TO.mid1 10 31 (.bool b12) ?_ ?_
    · refine bcase (r9) (fun hb11 => ?_) (fun hb11 => ?_)
      · replace hj13 := cond_t hb11 hj13
        cases hj13
        refine TO.skip rfl rfl rfl (skipT hb11) rfl rfl ?_
        refine TO.skip rfl rfl rfl (skipT hb11) rfl rfl ?_
        refine TO.skip rfl rfl rfl (skipT hb11) rfl rfl ?_
        refine TO.skip rfl rfl rfl (skipT hb11) rfl rfl ?_
        refine TO.skip rfl rfl rfl skipU rfl rfl ?_
        refine TO.skip rfl rfl rfl skipU rfl rfl ?_
        refine TO.skip rfl rfl rfl skipU rfl rfl ?_
        refine TO.skip rfl rfl rfl skipU rfl rfl ?_
        refine TO.skip rfl rfl rfl (skipT hb11) rfl rfl ?_
        refine TO.s rfl rfl rfl (StepS.pickT rfl hb11 rfl) ?_
        exact TO.up1 10 0 rfl rfl rfl rfl
      · replace hj13 := cond_f hb11 hj13
        refine TO.sw rfl rfl rfl hb11 rfl rfl (StepS.fld rfl kfieldB_41_0_0_true) ?_
        refine TO.sw rfl rfl rfl hb11 rfl rfl (StepS.ldB rfl (Ent.at 0 rfl) kscalB_3_true rfl) ?_
        refine TO.sw rfl rfl rfl hb11 rfl rfl (StepS.cmp rfl rfl rfl) ?_
        refine TO.sw rfl rfl rfl hb11 rfl rfl (StepS.move rfl) ?_
        obtain ⟨b15, hj16, hj13⟩ := bind_some hj13
        refine TO.mid1 5 30 (.bool b15) ?_ ?_
        · refine bcase ((a1.1 == 2)) (fun hb14 => ?_) (fun hb14 => ?_)
          · replace hj16 := cond_t hb14 hj16
            refine TO.sw rfl rfl rfl hb14 rfl rfl (StepS.move rfl) ?_
            refine TO.sw rfl rfl rfl hb14 rfl rfl (StepS.fld rfl kfieldB_41_2_2_true) ?_
            refine TO.sw rfl rfl rfl hb14 rfl rfl (StepS.ldB rfl (Ent.at 0 rfl) kscalB_3_true rfl) ?_
            obtain ⟨r17, hc18, hj16⟩ := bind_some hj16
            refine TO.qw rfl rfl rfl hb14 rfl rfl (StepQ.callC kcallB_19_true rfl rfl rfl (fun _ st => C19 (Ent.at 1 rfl) (Ent.at 2 rfl) (RR.hd (SS.rr (Ent.at 3 rfl))) hc18 st)) ?_
            cases hj16
            refine TO.sw rfl rfl rfl hb11 rfl rfl (StepS.pickT rfl hb14 rfl) ?_
            exact TO.up1 5 0 rfl rfl rfl rfl
          · replace hj16 := cond_f hb14 hj16
            cases hj16
            refine TO.skip rfl rfl rfl (skipF hb14) rfl rfl ?_
            refine TO.skip rfl rfl rfl (skipF hb14) rfl rfl ?_
            refine TO.skip rfl rfl rfl (skipF hb14) rfl rfl ?_
            refine TO.skip rfl rfl rfl (skipF hb14) rfl rfl ?_
            refine TO.sw rfl rfl rfl hb11 rfl rfl (StepS.pickF rfl hb14 rfl) ?_
            exact TO.up1 5 0 rfl rfl rfl rfl
        cases hj13
        refine TO.s rfl rfl rfl (StepS.pickF rfl hb11 rfl) ?_
        exact TO.up1 6 0 rfl rfl rfl rfl
    refine TO.s rfl rfl rfl (StepS.assign rfl) ?_
    refine TO.code ?_
    refine TC.cond rfl (fun hc19 => ?_) (fun hc19 => ?_)
    · replace hm := cond_t hc19 hm
      refine TC.k ?_
      refine TC.region ?_
      refine TO.s rfl rfl rfl (StepS.assign rfl) ?_
      refine TO.code ?_
      cases hm
      refine TC.ret fun a w e s => ?_
      refine FRet.mk1 (P := Try.prog) (fn := Try.f9) (t := 4) e rfl rfl ?_
      refine ⟨_, _, rfl, ⟨(h0_2), zs, rfl, rfl⟩, ?_⟩
      refine s.mono fun _ s => ?_
      replace s := Sat.front 5 rfl s
      replace s := Sat.front 5 rfl s
      replace s := Sat.front 5 rfl s
      replace s := Sat.front 5 rfl s
      replace s := Sat.erase 4 s
      replace s := Sat.erase 4 s
      exact s
    · replace hm := cond_f hc19 hm
      refine TC.k ?_
      refine TC.region ?_
      refine TO.s rfl rfl rfl (StepS.fld rfl kfieldB_41_0_0_true) ?_
      refine TO.s rfl rfl rfl (StepS.ldB rfl (Ent.at 0 rfl) kscalB_3_true rfl) ?_
      refine TO.s rfl rfl rfl (StepS.cmp rfl rfl rfl) ?_
      refine TO.s rfl rfl rfl (StepS.assign rfl) ?_
      refine TO.code ?_
      refine TC.cond rfl (fun hc20 => ?_) (fun hc20 => ?_)
      · replace hm := cond_t hc20 hm
        refine TC.k ?_
        refine TC.region ?_
        refine TO.s rfl rfl rfl (StepS.ldB rfl (Ent.at 1 rfl) kscalB_36_true rfl) ?_
        refine TO.s rfl rfl rfl (StepS.fld rfl kfieldB_41_1_1_true) ?_
        refine TO.s rfl rfl rfl (StepS.ldB rfl (Ent.at 0 rfl) kscalB_3_true rfl) ?_
        refine TO.s rfl rfl rfl (StepS.fld rfl kfieldB_41_2_2_true) ?_
        refine TO.s rfl rfl rfl (StepS.ldB rfl (Ent.at 0 rfl) kscalB_3_true rfl) ?_
        refine TO.ghost (fun _ s => Sat.front 3 rfl s) ?_
        refine TO.ghost (fun _ s => Sat.front 3 rfl s) ?_
        obtain ⟨r21, hc22, hm⟩ := bind_some hm
        refine TO.callO kcallB_20_true rfl rfl rfl (fun _ st => C20 (a0 := a0.1) (zs := zs) (Ent.at 3 rfl) hc22 st) ?_
        rintro _ _ ⟨hs23, rfl, rfl⟩
        refine TO.code ?_
        refine TC.k ?_
        refine TC.region ?_
        refine TO.s rfl rfl rfl (StepS.assign rfl) ?_
        refine TO.code ?_
        cases hm
        refine TC.ret fun a w e s => ?_
        refine FRet.mk1 (P := Try.prog) (fn := Try.f9) (t := 4) e rfl rfl ?_
        refine ⟨_, _, rfl, ⟨(hs23), zs, rfl, rfl⟩, ?_⟩
        refine s.mono fun _ s => ?_
        replace s := Sat.front 5 rfl s
        replace s := Sat.front 5 rfl s
        replace s := Sat.front 3 rfl s
        replace s := Sat.front 3 rfl s
        replace s := Sat.erase 4 s
        replace s := Sat.erase 4 s
        exact s
      · replace hm := cond_f hc20 hm
        refine TC.k ?_
        refine TC.region ?_
        refine TO.s rfl rfl rfl (StepS.fld rfl kfieldB_41_3_3_true) ?_
        refine TO.s rfl rfl rfl (StepS.ldB rfl (Ent.at 0 rfl) kscalB_3_true rfl) ?_
        refine TO.s rfl rfl rfl (StepS.cmp rfl rfl rfl) ?_
        refine TO.s rfl rfl rfl (StepS.move rfl) ?_
        refine TO.mid1 4 50 (.bool ((decide (a1.2.2.2 < 0)) || (decide (a1.2.2.2 > 100)))) ?_ ?_
        · refine bcase ((decide (a1.2.2.2 < 0))) (fun hb25 => ?_) (fun hb25 => ?_)
          · refine TO.skip rfl rfl rfl (skipT hb25) rfl rfl ?_
            refine TO.skip rfl rfl rfl (skipT hb25) rfl rfl ?_
            refine TO.skip rfl rfl rfl (skipT hb25) rfl rfl ?_
            refine TO.s rfl rfl rfl (StepS.pickT rfl hb25 rfl) ?_
            exact TO.up1 4 0 rfl rfl (by rw [hb25]; rfl) rfl
          · refine TO.sw rfl rfl rfl hb25 rfl rfl (StepS.fld rfl kfieldB_41_3_3_true) ?_
            refine TO.sw rfl rfl rfl hb25 rfl rfl (StepS.ldB rfl (Ent.at 0 rfl) kscalB_3_true rfl) ?_
            refine TO.sw rfl rfl rfl hb25 rfl rfl (StepS.cmp rfl rfl rfl) ?_
            refine TO.s rfl rfl rfl (StepS.pickF rfl hb25 rfl) ?_
            exact TO.up1 4 0 rfl rfl (by rw [hb25]; rfl) rfl
        refine TO.s rfl rfl rfl (StepS.assign rfl) ?_
        refine TO.code ?_
        refine TC.cond rfl (fun hc26 => ?_) (fun hc26 => ?_)
        · replace hm := cond_t hc26 hm
          refine TC.k ?_
          refine TC.region ?_
          refine TO.s rfl rfl rfl (StepS.assign rfl) ?_
          refine TO.code ?_
          cases hm
          refine TC.ret fun a w e s => ?_
          refine FRet.mk1 (P := Try.prog) (fn := Try.f9) (t := 4) e rfl rfl ?_
          refine ⟨_, _, rfl, ⟨(h0_2), zs, rfl, rfl⟩, ?_⟩
          refine s.mono fun _ s => ?_
          replace s := Sat.front 5 rfl s
          replace s := Sat.front 5 rfl s
          replace s := Sat.front 5 rfl s
          replace s := Sat.front 5 rfl s
          replace s := Sat.erase 4 s
          replace s := Sat.erase 4 s
          exact s
        · replace hm := cond_f hc26 hm
          refine TC.skipk ?_
          refine TC.k ?_
          refine TC.region ?_
          refine TO.s rfl rfl rfl (StepS.ldB rfl (Ent.at 1 rfl) kscalB_36_true rfl) ?_
          refine TO.s rfl rfl rfl (StepS.fld rfl kfieldB_41_1_1_true) ?_
          refine TO.s rfl rfl rfl (StepS.ldB rfl (Ent.at 0 rfl) kscalB_3_true rfl) ?_
          refine TO.s rfl rfl rfl (StepS.fld rfl kfieldB_41_3_3_true) ?_
          refine TO.s rfl rfl rfl (StepS.ldB rfl (Ent.at 0 rfl) kscalB_3_true rfl) ?_
          refine TO.ghost (fun _ s => Sat.front 5 rfl s) ?_
          refine TO.ghost (fun _ s => Sat.front 5 rfl s) ?_
          refine TO.ghost (fun _ s => Sat.front 5 rfl s) ?_
          refine TO.ghost (fun _ s => Sat.front 5 rfl s) ?_
          obtain ⟨⟨r27, r28⟩, hc29, hm⟩ := bind_some hm
          refine TO.callO kcallB_21_true rfl rfl rfl (fun _ st => C21 (a0 := (a0.1, a0.2)) (zs := zs)  hc29 st) ?_
          rintro _ _ ⟨hs30, zs, rfl, rfl⟩
          refine TO.code ?_
          refine TC.k ?_
          refine TC.region ?_
          refine TO.s rfl rfl rfl (StepS.assign rfl) ?_
          refine TO.code ?_
          cases hm
          refine TC.ret fun a w e s => ?_
          refine FRet.mk1 (P := Try.prog) (fn := Try.f9) (t := 4) e rfl rfl ?_
          refine ⟨_, _, rfl, ⟨(hs30), zs, rfl, rfl⟩, ?_⟩
          refine s.mono fun _ s => ?_
          replace s := Sat.front 3 rfl s
          replace s := Sat.front 3 rfl s
          replace s := Sat.front 3 rfl s
          replace s := Sat.front 3 rfl s
          replace s := Sat.erase 4 s
          replace s := Sat.erase 4 s
          exact s
end Go.Proofs.Ytgofkfhkolkfmaa
