/-
  The walks: each Go function returns what its model says. Written by a program (gen.py).
-/
import Derived.Test.YtmfidlalejdikaaProg
import Derived.KernelRfl
import Derived.Test.YtmfidlalejdikaaAW
import Derived.Test.YtmfidlalejdikaaSL
import Derived.Test.YtmfidlalejdikaaRM
namespace Go.Proofs.Ytmfidlalejdikaa
open Go Go.Bk
set_option linter.unusedVariables false
set_option linter.unnecessarySimpa false
theorem kcallB_59_true : callB Try.prog 59 = true := by kernel_rfl
theorem kcallB_52_true : callB Try.prog 52 = true := by kernel_rfl
theorem kcallB_51_true : callB Try.prog 51 = true := by kernel_rfl
theorem kcallB_53_true : callB Try.prog 53 = true := by kernel_rfl
theorem kcallB_39_true : callB Try.prog 39 = true := by kernel_rfl

set_option maxRecDepth 100000 in
theorem C52 {B : World} {L : List HP} {a0 : Int} {a1 : Int × Int × Int} {b1_ : Nat} {r0 : Bool} (g1 : Ent L (Bx b1_ 58 [I a1.1, I a1.2.1, I a1.2.2])) (hm : F52 a0 a1 = some r0) {w : World} (st : St B L w) : Calls Try.prog 52 #[I a0, .pointer (some ⟨b1_, 0, none⟩)] w (fun e w' => (e = .returned (.bool r0) ∧ St B (L) w')) := by
  refine calls_of (N := 8) (L := L) (args := [I a0, .pointer (some ⟨b1_, 0, none⟩)]) Try.func52 rfl rfl rfl ?_ st
  dsimp only [F52] at hm
  refine TC.k ?_
  refine TC.region ?_
  refine TO.s rfl rfl rfl (StepS.assign rfl) ?_
  refine TO.code ?_
  refine TC.k ?_
  refine TC.region ?_
  refine TO.s rfl rfl rfl (StepS.move rfl) ?_
  refine TO.s rfl rfl rfl (StepS.fld rfl kfieldB_58_2_2_true) ?_
  refine TO.s rfl rfl rfl (StepS.ldB rfl g1 kscalB_3_true rfl) ?_
  refine TO.s rfl rfl rfl (StepS.cmp rfl rfl rfl) ?_
  refine TO.s rfl rfl rfl (StepS.assign rfl) ?_
  refine TO.code ?_
  cases hm
  refine TC.ret fun a w e s => ?_
  refine FRet.mk1 (P := Try.prog) (fn := Try.f52) (t := 3) e rfl rfl ?_
  exact ⟨rfl, s.mono fun _ => Sat.dropN 0⟩

set_option maxRecDepth 100000 in
theorem C59 {B : World} {L : List HP} {a0 : List Int} {a1 : Int → Option Bool} {h0 : Value} {h1 : Value} {r0 : Int} (e0 : Ent L (Rd 1 h0 (a0.map cI))) (e1 : FOk Try.prog B L h1 (fun (z : Int) => [I z]) (fun (z : Bool) => .bool z) a1) (hm : F59 a0 a1 = some r0) {w : World} (st : St B L w) : Calls Try.prog 59 #[h0, h1] w (fun e w' => (e = .returned (I r0) ∧ St B (L) w')) := by
  refine calls_of (N := 19) (L := L) (args := [h0, h1]) Try.func59 rfl rfl rfl ?_ st
  dsimp only [F59] at hm
  refine TC.k ?_
  refine TC.region ?_
  refine TO.s rfl rfl rfl (StepS.assign rfl) ?_
  refine TO.code ?_
  refine TC.k ?_
  refine TC.k ?_
  refine TC.region ?_
  refine TO.s rfl rfl rfl (StepS.move rfl) ?_
  refine TO.s rfl rfl rfl (StepS.lenm rfl e0 ksliceB_34_3_1_true rfl) ?_
  refine TO.s rfl rfl rfl (StepS.move rfl) ?_
  refine TO.code ?_
  obtain ⟨o3, hw4, hm⟩ := bind_some hm
  refine TC.loop hw4 (fun x1 => fun a w => Mid 19 B [(0, h0), (1, h1), (7, I (a0.length : Int)), (8, I x1)] (L) a w) (fun _ => fun a w => Mid 19 B [] (L) a w) (fun r0 => FRet Try.prog Try.f59 (fun e w' => (e = .returned (I r0) ∧ St B (L) w'))) ?_ ?_ ?_ ?_
  · rintro x1 o3r hb5 a w ⟨he, hs⟩
    dsimp only [F59_L0] at hb5
    refine TC.use ?_ he hs
    refine TC.k ?_
    refine TC.region ?_
    refine TO.s rfl rfl rfl (StepS.cmp rfl rfl rfl) ?_
    refine TO.code ?_
    refine TC.k ?_
    refine TC.cond rfl (fun hc6 => ?_) (fun hc6 => ?_)
    · replace hb5 := cond_t hc6 hb5
      refine TC.skipk ?_
      refine TC.k ?_
      refine TC.block ?_
      refine TC.k ?_
      refine TC.region ?_
      refine TO.s rfl rfl rfl (StepS.move rfl) ?_
      refine TO.s rfl rfl rfl (StepS.assign rfl) ?_
      refine TO.code ?_
      refine TC.k ?_
      refine TC.region ?_
      refine TO.s rfl rfl rfl (StepS.move rfl) ?_
      refine TO.s rfl rfl rfl (StepS.move rfl) ?_
      refine TO.s rfl rfl rfl (StepS.move rfl) ?_
      obtain ⟨x7, hx8, hb5⟩ := bind_some hb5
      refine TO.s rfl rfl rfl (StepS.idx rfl rfl e0 ksliceB_34_3_1_true (idx_spec hx8).1 (idxm_lt hx8)) ?_
      refine TO.s rfl rfl rfl (StepS.ld0 rfl e0 kscalB_3_true rfl (idxm hx8) rfl) ?_
      obtain ⟨r9, hc10, hb5⟩ := bind_some hb5
      refine TO.q rfl rfl rfl (StepQ.callF (x := x7) e1 (Ext.rfl) rfl rfl hc10) ?_
      refine TO.code ?_
      refine TC.cond rfl (fun hc11 => ?_) (fun hc11 => ?_)
      · replace hb5 := cond_t hc11 hb5
        refine TC.k ?_
        refine TC.region ?_
        refine TO.s rfl rfl rfl (StepS.move rfl) ?_
        refine TO.s rfl rfl rfl (StepS.assign rfl) ?_
        refine TO.code ?_
        cases hb5
        refine TC.ret fun a w e s => ?_
        refine FRet.mk1 (P := Try.prog) (fn := Try.f59) (t := 4) e rfl rfl ?_
        exact ⟨rfl, s.mono fun _ => Sat.dropN 0⟩
      · replace hb5 := cond_f hc11 hb5
        refine TC.skipk ?_
        refine TC.region ?_
        refine TO.s rfl rfl rfl (StepS.ari rfl rfl rfl) ?_
        refine TO.s rfl rfl rfl (StepS.move rfl) ?_
        cases hb5
        refine TO.nil fun a w e s => ?_
        exact ⟨e.sub (lk_of_allIn ⟨rfl, rfl, rfl, rfl, trivial⟩), s⟩
    · replace hb5 := cond_f hc6 hb5
      cases hb5
      refine TC.exit rfl fun a w e s => ?_
      exact ⟨e.sub (lk_of_allIn trivial), s⟩
  · exact fun a w e s => ⟨e.sub (lk_of_allIn ⟨rfl, rfl, rfl, rfl, trivial⟩), s⟩
  · rintro _ rfl a w ⟨he, hs⟩
    dsimp only [Ctl.on] at hm
    refine TC.use ?_ he hs
    refine TC.k ?_
    refine TC.region ?_
    refine TO.s rfl rfl rfl (StepS.assign rfl) ?_
    refine TO.code ?_
    cases hm
    refine TC.ret fun a w e s => ?_
    refine FRet.mk1 (P := Try.prog) (fn := Try.f59) (t := 4) e rfl rfl ?_
    exact ⟨rfl, s.mono fun _ => Sat.dropN 0⟩
  · rintro r rfl
    cases hm
    exact fun a w h => h

set_option maxRecDepth 100000 in
theorem C51 {B : World} {L : List HP} {a0 : List Int} {a1 : Int → Option Bool} {h0 : Value} {h1 : Value} {r0 : List Int} (e1 : FOk Try.prog B L h1 (fun (z : Int) => [I z]) (fun (z : Bool) => .bool z) a1) (hm : F51 a0 a1 = some r0) {w : World} (st : St B (OwnS 3 1 h0 (a0.map cI) :: L) w) : Calls Try.prog 51 #[h0, h1] w (fun e w' => ∃ v M, e = .returned v ∧ (∃ (qv1 : Value), v = qv1 ∧ M = (OwnS 3 1 qv1 (r0.map cI) :: L)) ∧ St B M w') := by
  refine calls_of (N := 42) (L := (OwnS 3 1 h0 (a0.map cI) :: L)) (args := [h0, h1]) Try.func51 rfl rfl rfl ?_ st
  dsimp only [F51] at hm
  refine TC.k ?_
  refine TC.region ?_
  refine TO.s rfl rfl rfl (StepS.assign rfl) ?_
  refine TO.code ?_
  refine TC.k ?_
  refine TC.region ?_
  refine TO.s rfl rfl rfl (StepS.move rfl) ?_
  refine TO.s rfl rfl rfl (StepS.move rfl) ?_
  obtain ⟨r3, hc4, hm⟩ := bind_some hm
  refine TO.q rfl rfl rfl (StepQ.call kcallB_59_true rfl rfl (fun _ st => C59 (OwnS.rd (Ent.at 0 rfl)) (e1.ext (Ext.rfl.tl)) hc4 st)) ?_
  refine TO.s rfl rfl rfl (StepS.assign rfl) ?_
  refine TO.code ?_
  refine TC.k ?_
  refine TC.k ?_
  refine TC.region ?_
  refine TO.s rfl rfl rfl (StepS.move rfl) ?_
  refine TO.s rfl rfl rfl (StepS.cmp rfl rfl rfl) ?_
  refine TO.code ?_
  refine TC.cond rfl (fun hc5 => ?_) (fun hc5 => ?_)
  · replace hm := cond_t hc5 hm
    refine TC.k ?_
    refine TC.region ?_
    refine TO.s rfl rfl rfl (StepS.move rfl) ?_
    refine TO.s rfl rfl rfl (StepS.assign rfl) ?_
    refine TO.code ?_
    cases hm
    refine TC.ret fun a w e s => ?_
    refine FRet.mk1 (P := Try.prog) (fn := Try.f51) (t := 4) e rfl rfl ?_
    refine ⟨_, _, rfl, ⟨(h0), rfl, rfl⟩, ?_⟩
    refine s.mono fun _ s => ?_
    replace s := Sat.front 0 rfl s
    exact s
  · replace hm := cond_f hc5 hm
    refine TC.skipk ?_
    refine TC.k ?_
    refine TC.k ?_
    refine TC.region ?_
    refine TO.s rfl rfl rfl (StepS.move rfl) ?_
    refine TO.s rfl rfl rfl (StepS.ari rfl rfl rfl) ?_
    refine TO.s rfl rfl rfl (StepS.assign rfl) ?_
    refine TO.code ?_
    obtain ⟨o14, hw15, hm⟩ := bind_some hm
    refine TC.loop hw15 (fun (y6, x7, x8) => fun a w => Mid 42 B [(0, h0), (1, h1), (5, I x7), (6, I x8)] (OwnS 3 1 h0 (y6.map cI) :: L) a w) (fun (y12, x13) => fun a w => Mid 42 B [(0, h0), (5, I x13)] (OwnS 3 1 h0 (y12.map cI) :: L) a w) (fun (_ : Unit) _ _ => False) ?_ ?_ ?_ ?_
    · rintro ⟨y6, x7, x8⟩ o14r hb16 a w ⟨he, hs⟩
      dsimp only [F51_L0] at hb16
      refine TC.use ?_ he hs
      refine TC.k ?_
      refine TC.k ?_
      refine TC.region ?_
      refine TO.s rfl rfl rfl (StepS.move rfl) ?_
      refine TO.s rfl rfl rfl (StepS.move rfl) ?_
      refine TO.s rfl rfl rfl (StepS.lenm rfl (OwnS.rd (Ent.at 0 rfl)) ksliceB_34_3_1_true rfl) ?_
      refine TO.s rfl rfl rfl (StepS.cmp rfl rfl rfl) ?_
      refine TO.code ?_
      refine TC.cond rfl (fun hc17 => ?_) (fun hc17 => ?_)
      · replace hb16 := cond_t hc17 hb16
        refine TC.skipk ?_
        refine TC.k ?_
        obtain ⟨⟨y18, x19⟩, hj20, hb16⟩ := bind_some hb16
        first | refine TC.cutM (fun a w => Mid 42 B [(0, h0), (1, h1), (5, I x19), (6, I x8)] (OwnS 3 1 h0 (y18.map cI) :: L) a w) ?_ ?_ | refine TC.cutX (fun a w => Mid 42 B [(0, h0), (1, h1), (5, I x19), (6, I x8)] (OwnS 3 1 h0 (y18.map cI) :: L) a w) ?_ ?_
        · refine TC.block ?_
          refine TC.k ?_
          refine TC.region ?_
          refine TO.s rfl rfl rfl (StepS.move rfl) ?_
          refine TO.s rfl rfl rfl (StepS.move rfl) ?_
          obtain ⟨x21, hx22, hj20⟩ := bind_some hj20
          refine TO.s rfl rfl rfl (StepS.idx rfl rfl (OwnS.rd (Ent.at 0 rfl)) ksliceB_34_3_1_true (idx_spec hx22).1 (idxm_lt hx22)) ?_
          refine TO.s rfl rfl rfl (StepS.ld0 rfl (OwnS.rd (Ent.at 0 rfl)) kscalB_3_true rfl (idxm hx22) rfl) ?_
          refine TO.s rfl rfl rfl (StepS.assign rfl) ?_
          refine TO.code ?_
          refine TC.k ?_
          refine TC.region ?_
          refine TO.s rfl rfl rfl (StepS.move rfl) ?_
          refine TO.s rfl rfl rfl (StepS.move rfl) ?_
          obtain ⟨r23, hc24, hj20⟩ := bind_some hj20
          refine TO.q rfl rfl rfl (StepQ.callF (x := x21) e1 (Ext.rfl.tl) rfl rfl hc24) ?_
          refine TO.s rfl rfl rfl (StepS.not rfl) ?_
          refine TO.code ?_
          refine TC.cond rfl (fun hc25 => ?_) (fun hc25 => ?_)
          · replace hj20 := cond_t hc25 hj20
            refine TC.k ?_
            refine TC.region ?_
            refine TO.s rfl rfl rfl (StepS.move rfl) ?_
            refine TO.s rfl rfl rfl (StepS.move rfl) ?_
            refine TO.s rfl rfl rfl (StepS.move rfl) ?_
            obtain ⟨x26, hx27, hj20⟩ := bind_some hj20
            refine TO.s rfl rfl rfl (StepS.idx rfl rfl (OwnS.rd (Ent.at 0 rfl)) ksliceB_34_3_1_true (idx_spec hx27).1 (idxm_lt hx27)) ?_
            refine TO.stO (i := x7.toNat) (off := 0) (us := [I x21]) 0 x21 rfl rfl rfl ksizeB_3_1_true rfl rfl rfl (idx_spec hx27).2 rfl (by simp [Value.oneCell']) rfl ?_
            refine TO.code ?_
            refine TC.region ?_
            refine TO.s rfl rfl rfl (StepS.move rfl) ?_
            refine TO.s rfl rfl rfl (StepS.ari rfl rfl rfl) ?_
            refine TO.s rfl rfl rfl (StepS.assign rfl) ?_
            cases hj20
            refine TO.nil fun a w e s => ?_
            exact ⟨e.sub (lk_of_allIn ⟨rfl, rfl, rfl, rfl, trivial⟩), s⟩
          · replace hj20 := cond_f hc25 hj20
            cases hj20
            refine TC.skip fun a w e s => ?_
            exact ⟨e.sub (lk_of_allIn ⟨rfl, rfl, rfl, rfl, trivial⟩), s⟩
        · intro a w ⟨he, hs⟩
          refine TC.use ?_ he hs
          refine TC.region ?_
          refine TO.s rfl rfl rfl (StepS.move rfl) ?_
          refine TO.s rfl rfl rfl (StepS.ari rfl rfl rfl) ?_
          refine TO.s rfl rfl rfl (StepS.assign rfl) ?_
          cases hb16
          refine TO.nil fun a w e s => ?_
          exact ⟨e.sub (lk_of_allIn ⟨rfl, rfl, rfl, rfl, trivial⟩), s⟩
      · replace hb16 := cond_f hc17 hb16
        cases hb16
        refine TC.exit rfl fun a w e s => ?_
        exact ⟨e.sub (lk_of_allIn ⟨rfl, rfl, trivial⟩), s⟩
    · exact fun a w e s => ⟨e.sub (lk_of_allIn ⟨rfl, rfl, rfl, rfl, trivial⟩), s⟩
    · rintro ⟨y12, x13⟩ rfl a w ⟨he, hs⟩
      dsimp only [Ctl.on] at hm
      refine TC.use ?_ he hs
      refine TC.k ?_
      refine TC.region ?_
      refine TO.s rfl rfl rfl (StepS.move rfl) ?_
      refine TO.s rfl rfl rfl (StepS.move rfl) ?_
      obtain ⟨y28, hs29, hm⟩ := bind_some hm
      obtain ⟨hs29a, hs29b, hs29c, _⟩ := slI_spec hs29
      refine TO.s rfl rfl rfl (StepS.slc rfl (OwnS.rd (Ent.at 0 rfl)) ksliceB_34_3_1_true rfl (by simp [bnd]) hs29a hs29b (by simpa using hs29c)) ?_
      refine TO.clearO0 (f := cI) 0 0 kelemB_34_3_1_8_true (by decide) kinfo_3_bind_zero_some_I_0 rfl (fun c hc => by simp at hc; first | (obtain rfl := hc; rfl) | (rcases hc with rfl <;> rfl)) ⟨hs29a, hs29b⟩ rfl rfl rfl ?_
      refine TO.code ?_
      refine TC.k ?_
      refine TC.region ?_
      refine TO.s rfl rfl rfl (StepS.move rfl) ?_
      refine TO.s rfl rfl rfl (StepS.move rfl) ?_
      obtain ⟨y31, hs32, hm⟩ := bind_some hm
      obtain ⟨hs32a, hs32b, hs32c, _⟩ := slI_spec hs32
      refine TO.s rfl rfl rfl (StepS.slc rfl (OwnS.rd (Ent.at 0 rfl)) ksliceB_34_3_1_true rfl rfl hs32a hs32b (by simpa using hs32c)) ?_
      refine TO.s rfl rfl rfl (StepS.assign rfl) ?_
      refine TO.code ?_
      cases hm
      refine TC.ret fun a w e s => ?_
      refine FRet.mk1 (P := Try.prog) (fn := Try.f51) (t := 4) e rfl rfl ?_
      refine ⟨_, _, rfl, ⟨((subv h0 0 x13 1)), rfl, rfl⟩, ?_⟩
      refine s.mono fun _ s => ?_
      replace s := Sat.cutO 0 rfl hs32 s
      replace s := Sat.front 0 rfl s
      exact s
    · rintro r rfl
      exact fun a w h => h.elim

set_option maxRecDepth 100000 in
theorem C39 {B : World} {L : List HP} {a0 : Int} {a1 : List (Int × Int × Int)} {a2 : List Int} {h1 : Value} {h2 : Value} {r0 : List Int} {r1 : Int} (e1 : Ent L (Rd 3 h1 (a1.map cTiii))) (e2 : Ent L (Rd 1 h2 (a2.map cI))) (hm : F39 a0 a1 a2 = some (r0, r1)) {w : World} (st : St B L w) : Calls Try.prog 39 #[I a0, h1, h2] w (fun e w' => ∃ v M, e = .returned v ∧ (∃ (qv1 : Value), v = .tuple #[qv1, I r1] ∧ M = (OwnS 3 1 qv1 (r0.map cI) :: L)) ∧ St B M w') := by
  refine calls_of (N := 64) (L := L) (args := [I a0, h1, h2]) Try.func39 rfl rfl rfl ?_ st
  dsimp only [F39] at hm
  refine TC.k ?_
  refine TC.region ?_
  refine TO.s rfl rfl rfl (StepS.assign rfl) ?_
  refine TO.s rfl rfl rfl (StepS.assign rfl) ?_
  refine TO.code ?_
  refine TC.k ?_
  refine TC.region ?_
  refine TO.s rfl rfl rfl (StepS.move rfl) ?_
  refine TO.s rfl rfl rfl (StepS.move rfl) ?_
  refine TO.s rfl rfl rfl (StepS.move rfl) ?_
  obtain ⟨⟨r2, r3⟩, hc4, hm⟩ := bind_some hm
  refine TO.q rfl rfl rfl (StepQ.call kcallB_33_true rfl rfl (fun _ st => C33 e1 e2 hc4 st)) ?_
  refine TO.s rfl rfl rfl (StepS.move rfl) ?_
  refine TO.s rfl rfl rfl (StepS.extract rfl rfl) ?_
  refine TO.s rfl rfl rfl (StepS.extract rfl rfl) ?_
  refine TO.s rfl rfl rfl (StepS.assign rfl) ?_
  refine TO.s rfl rfl rfl (StepS.assign rfl) ?_
  refine TO.code ?_
  refine TC.k ?_
  refine TC.k ?_
  refine TC.region ?_
  refine TO.s rfl rfl rfl (StepS.move rfl) ?_
  refine TO.s rfl rfl rfl (StepS.cmp rfl rfl rfl) ?_
  refine TO.code ?_
  refine TC.cond rfl (fun hc5 => ?_) (fun hc5 => ?_)
  · replace hm := cond_t hc5 hm
    refine TC.k ?_
    refine TC.region ?_
    refine TO.s rfl rfl rfl (StepS.move rfl) ?_
    refine TO.s rfl rfl rfl (StepS.assign rfl) ?_
    refine TO.s rfl rfl rfl (StepS.assign rfl) ?_
    refine TO.code ?_
    cases hm
    refine TC.ret fun a w e s => ?_
    refine FRet.mk2 (P := Try.prog) (fn := Try.f39) (t := 6) (u := 7) e rfl rfl rfl ?_
    refine ⟨_, _, rfl, ⟨(.slice none 0 0), rfl, rfl⟩, ?_⟩
    refine s.mono fun _ s => ?_
    replace s := Sat.nilS (e := 3) (sz := 1) (f := cI) s
    exact s
  · replace hm := cond_f hc5 hm
    refine TC.skipk ?_
    refine TC.k ?_
    refine TC.k ?_
    refine TC.region ?_
    refine TO.s rfl rfl rfl (StepS.move rfl) ?_
    refine TO.s rfl rfl rfl (StepS.not rfl) ?_
    refine TO.code ?_
    refine TC.cond rfl (fun hc6 => ?_) (fun hc6 => ?_)
    · replace hm := cond_t hc6 hm
      refine TC.k ?_
      refine TC.region ?_
      refine TO.s rfl rfl rfl (StepS.assign rfl) ?_
      refine TO.s rfl rfl rfl (StepS.assign rfl) ?_
      refine TO.code ?_
      cases hm
      refine TC.ret fun a w e s => ?_
      refine FRet.mk2 (P := Try.prog) (fn := Try.f39) (t := 6) (u := 7) e rfl rfl rfl ?_
      refine ⟨_, _, rfl, ⟨(.slice none 0 0), rfl, rfl⟩, ?_⟩
      refine s.mono fun _ s => ?_
      replace s := Sat.nilS (e := 3) (sz := 1) (f := cI) s
      exact s
    · replace hm := cond_f hc6 hm
      refine TC.skipk ?_
      refine TC.k ?_
      refine TC.region ?_
      refine TO.s rfl rfl rfl (StepS.move rfl) ?_
      refine TO.s rfl rfl rfl (StepS.move rfl) ?_
      refine TO.s rfl rfl rfl (StepS.move rfl) ?_
      obtain ⟨⟨r7, r8⟩, hc9, hm⟩ := bind_some hm
      refine TO.q rfl rfl rfl (StepQ.call kcallB_45_true rfl rfl (fun _ st => C45 e1 e2 hc9 st)) ?_
      refine TO.s rfl rfl rfl (StepS.move rfl) ?_
      refine TO.s rfl rfl rfl (StepS.extract rfl rfl) ?_
      refine TO.s rfl rfl rfl (StepS.extract rfl rfl) ?_
      refine TO.s rfl rfl rfl (StepS.assign rfl) ?_
      refine TO.s rfl rfl rfl (StepS.assign rfl) ?_
      refine TO.code ?_
      refine TC.k ?_
      refine TC.region ?_
      refine TO.s rfl rfl rfl (StepS.assign rfl) ?_
      refine TO.code ?_
      refine TC.k ?_
      refine TC.k ?_
      refine TC.region ?_
      refine TO.s rfl rfl rfl (StepS.move rfl) ?_
      refine TO.s rfl rfl rfl (StepS.lenm rfl e1 ksliceB_22_58_3_true rfl) ?_
      refine TO.s rfl rfl rfl (StepS.move rfl) ?_
      refine TO.code ?_
      obtain ⟨o21, hw22, hm⟩ := bind_some hm
      refine TC.loop hw22 (fun (y12, x13) => fun a w => ∃ v10 : Value, Mid 64 B [(10, U r7), (12, v10), (34, h1), (35, I (a1.length : Int)), (36, I x13)] (OwnS 3 1 v10 (y12.map cI) :: L) a w) (fun y20 => fun a w => ∃ v18 : Value, Mid 64 B [(12, v18)] (OwnS 3 1 v18 (y20.map cI) :: L) a w) (fun (_ : Unit) _ _ => False) ?_ ?_ ?_ ?_
      · rintro ⟨y12, x13⟩ o21r hb23 a w ⟨v10, he, hs⟩
        dsimp only [F39_L0] at hb23
        refine TC.use ?_ he hs
        refine TC.k ?_
        refine TC.region ?_
        refine TO.s rfl rfl rfl (StepS.cmp rfl rfl rfl) ?_
        refine TO.code ?_
        refine TC.k ?_
        refine TC.cond rfl (fun hc24 => ?_) (fun hc24 => ?_)
        · replace hb23 := cond_t hc24 hb23
          refine TC.skipk ?_
          refine TC.k ?_
          obtain ⟨y27, hj28, hb23⟩ := bind_some hb23
          first | refine TC.cutM (fun a w => ∃ v25 : Value, Mid 64 B [(10, U r7), (12, v25), (34, h1), (35, I (a1.length : Int)), (36, I x13)] (OwnS 3 1 v25 (y27.map cI) :: L) a w) ?_ ?_ | refine TC.cutX (fun a w => ∃ v25 : Value, Mid 64 B [(10, U r7), (12, v25), (34, h1), (35, I (a1.length : Int)), (36, I x13)] (OwnS 3 1 v25 (y27.map cI) :: L) a w) ?_ ?_
          · refine TC.block ?_
            refine TC.k ?_
            refine TC.region ?_
            refine TO.s rfl rfl rfl (StepS.move rfl) ?_
            obtain ⟨x29, hx30, hj28⟩ := bind_some hj28
            refine TO.s rfl rfl rfl (StepS.idx rfl rfl e1.tl ksliceB_22_58_3_true (idx_spec hx30).1 (idxm_lt hx30)) ?_
            refine TO.s rfl rfl rfl (StepS.ldE rfl e1.tl kaggB_58_3_true rfl (idxm hx30)) ?_
            refine TO.alloc kinfo_58_bind_zero_some_agg_I_0_I_0_I_0 rfl rfl fun b31 => ?_
            refine TO.s rfl rfl rfl (StepS.assign rfl) ?_
            refine TO.stB (us := [I x29.1, I x29.2.1, I x29.2.2]) 0 [I x29.1, I x29.2.1, I x29.2.2] rfl rfl rfl ksizeB_58_3_true rfl rfl rfl (by simp [Value.oneCell']) rfl ?_
            refine TO.code ?_
            refine TC.k ?_
            refine TC.k ?_
            refine TC.region ?_
            refine TO.s rfl rfl rfl (StepS.move rfl) ?_
            refine TO.s rfl rfl rfl (StepS.move rfl) ?_
            obtain ⟨k32, hk33, hj28⟩ := bind_some hj28
            refine TO.s rfl rfl rfl (StepS.shrk rfl rfl hk33) ?_
            refine TO.s rfl rfl rfl (StepS.bitU (n := 1#32) rfl rfl rfl) ?_
            refine TO.s rfl rfl rfl (StepS.cmpU (n := 0#32) rfl rfl rfl) ?_
            refine TO.code ?_
            refine TC.cond rfl (fun hc34 => ?_) (fun hc34 => ?_)
            · replace hj28 := cond_t hc34 hj28
              cases hj28
              refine TC.exit rfl fun a w e s => ?_
              exact ⟨v10, e.sub (lk_of_allIn ⟨rfl, rfl, rfl, rfl, rfl, trivial⟩), s.mono fun _ => Sat.dropN 1⟩
            · replace hj28 := cond_f hc34 hj28
              refine TC.skipk ?_
              refine TC.k ?_
              refine TC.k ?_
              refine TC.region ?_
              refine TO.s rfl rfl rfl (StepS.fld rfl kfieldB_58_1_1_true) ?_
              refine TO.s rfl rfl rfl (StepS.ldB rfl (Ent.at 0 rfl) kscalB_3_true rfl) ?_
              refine TO.s rfl rfl rfl (StepS.cmp rfl rfl rfl) ?_
              refine TO.code ?_
              obtain ⟨y35, hj37, hj28⟩ := bind_some hj28
              first | refine TC.cutM (fun a w => ∃ v36 : Value, Mid 64 B [(10, U r7), (12, v36), (14, .pointer (some ⟨b31, 0, none⟩)), (34, h1), (35, I (a1.length : Int)), (36, I x13)] (Bx b31 58 [I x29.1, I x29.2.1, I x29.2.2] :: OwnS 3 1 v36 (y35.map cI) :: L) a w) ?_ ?_ | refine TC.cutX (fun a w => ∃ v36 : Value, Mid 64 B [(10, U r7), (12, v36), (14, .pointer (some ⟨b31, 0, none⟩)), (34, h1), (35, I (a1.length : Int)), (36, I x13)] (Bx b31 58 [I x29.1, I x29.2.1, I x29.2.2] :: OwnS 3 1 v36 (y35.map cI) :: L) a w) ?_ ?_
              · refine TC.cond rfl (fun hc38 => ?_) (fun hc38 => ?_)
                · replace hj37 := cond_t hc38 hj37
                  refine TC.region ?_
                  refine TO.s rfl rfl rfl (StepS.move rfl) ?_
                  refine TO.s rfl rfl rfl (StepS.fld rfl kfieldB_58_2_2_true) ?_
                  refine TO.s rfl rfl rfl (StepS.ldB rfl (Ent.at 0 rfl) kscalB_3_true rfl) ?_
                  refine TO.litS (f := cI) ([x29.2.2] : List Int) kelemB_34_3_1_8_true kinfo_3_bind_zero_some_I_0 rfl rfl (fun _ => rfl) rfl rfl (by kernel_rfl) rfl fun v39 => ?_
                  obtain ⟨y41, hk42, hj37⟩ := bind_some hj37
                  refine TO.app (k := 2) (f := cI) kelemB_34_3_1_8_true (by decide) rfl rfl rfl (OwnS.rd (Ent.at 0 rfl)) hk42 (fun x c hc => by simp [Value.oneCell'] at hc ⊢; first | (obtain rfl := hc; rfl) | (rcases hc with rfl <;> rfl)) rfl rfl fun v43 => ?_
                  refine TO.s rfl rfl rfl (StepS.assign rfl) ?_
                  cases hj37
                  refine TO.nil fun a w e s => ?_
                  exact ⟨v43, e.sub (lk_of_allIn ⟨rfl, rfl, rfl, rfl, rfl, rfl, trivial⟩), s.mono fun _ => Sat.dropN 1⟩
                · replace hj37 := cond_f hc38 hj37
                  cases hj37
                  refine TC.skip fun a w e s => ?_
                  exact ⟨v10, e.sub (lk_of_allIn ⟨rfl, rfl, rfl, rfl, rfl, rfl, trivial⟩), s⟩
              · intro a w ⟨v36, he, hs⟩
                refine TC.use ?_ he hs
                refine TC.k ?_
                refine TC.region ?_
                refine TO.s rfl rfl rfl (StepS.fld rfl kfieldB_58_1_1_true) ?_
                refine TO.s rfl rfl rfl (StepS.ldB rfl (Ent.at 0 rfl) kscalB_3_true rfl) ?_
                refine TO.s rfl rfl rfl (StepS.cmp rfl rfl rfl) ?_
                refine TO.code ?_
                refine TC.cond rfl (fun hc44 => ?_) (fun hc44 => ?_)
                · replace hj28 := cond_t hc44 hj28
                  refine TC.region ?_
                  refine TO.s rfl rfl rfl (StepS.move rfl) ?_
                  refine TO.s rfl rfl rfl (StepS.mkfn rfl) ?_
                  refine TO.ghost (fun _ s => Sat.front 1 rfl s) ?_
                  obtain ⟨r45, hc46, hj28⟩ := bind_some hj28
                  refine TO.callO kcallB_51_true rfl rfl rfl (fun _ st => C51 ⟨52, #[], #[.pointer (some ⟨b31, 0, none⟩)], rfl, kcallB_52_true, fun _ hx z r hm w st => C52 (Ent.ext (Ent.at 0 rfl) hx) hm st⟩ hc46 st) ?_
                  rintro v47 _ ⟨_, rfl, rfl⟩
                  refine TO.s rfl rfl rfl (StepS.assign rfl) ?_
                  cases hj28
                  refine TO.nil fun a w e s => ?_
                  exact ⟨v47, e.sub (lk_of_allIn ⟨rfl, rfl, rfl, rfl, rfl, trivial⟩), s.mono fun _ s => (by replace s := Sat.front 0 rfl s; replace s := Sat.erase 1 s; exact s)⟩
                · replace hj28 := cond_f hc44 hj28
                  cases hj28
                  refine TC.skip fun a w e s => ?_
                  exact ⟨v36, e.sub (lk_of_allIn ⟨rfl, rfl, rfl, rfl, rfl, trivial⟩), s.mono fun _ => Sat.dropN 1⟩
          · intro a w ⟨v25, he, hs⟩
            refine TC.use ?_ he hs
            refine TC.region ?_
            refine TO.s rfl rfl rfl (StepS.ari rfl rfl rfl) ?_
            refine TO.s rfl rfl rfl (StepS.move rfl) ?_
            cases hb23
            refine TO.nil fun a w e s => ?_
            exact ⟨v25, e.sub (lk_of_allIn ⟨rfl, rfl, rfl, rfl, rfl, trivial⟩), s⟩
        · replace hb23 := cond_f hc24 hb23
          cases hb23
          refine TC.exit rfl fun a w e s => ?_
          exact ⟨v10, e.sub (lk_of_allIn ⟨rfl, trivial⟩), s⟩
      · exact fun a w e s => ⟨.slice none 0 0, e.sub (lk_of_allIn ⟨rfl, rfl, rfl, rfl, rfl, trivial⟩), s.mono fun _ s => (by replace s := Sat.nilS (e := 3) (sz := 1) (f := cI) s; exact s)⟩
      · rintro y20 rfl a w ⟨v18, he, hs⟩
        dsimp only [Ctl.on] at hm
        refine TC.use ?_ he hs
        refine TC.k ?_
        refine TC.region ?_
        refine TO.s rfl rfl rfl (StepS.move rfl) ?_
        obtain ⟨y49, hs50, hm⟩ := bind_some hm
        refine TO.sortO 0 kcallB_53_true slay hs50 rfl rfl rfl rfl ?_
        refine TO.code ?_
        refine TC.k ?_
        refine TC.region ?_
        refine TO.s rfl rfl rfl (StepS.move rfl) ?_
        refine TO.s rfl rfl rfl (StepS.assign rfl) ?_
        refine TO.s rfl rfl rfl (StepS.assign rfl) ?_
        refine TO.code ?_
        cases hm
        refine TC.ret fun a w e s => ?_
        refine FRet.mk2 (P := Try.prog) (fn := Try.f39) (t := 6) (u := 7) e rfl rfl rfl ?_
        refine ⟨_, _, rfl, ⟨(v18), rfl, rfl⟩, ?_⟩
        refine s.mono fun _ s => ?_
        replace s := Sat.front 0 rfl s
        exact s
      · rintro r rfl
        exact fun a w h => h.elim

set_option maxRecDepth 100000 in
theorem C14 {B : World} {L : List HP} {a0 : Int} {a1 : List (Int × Int × Int)} {a2 : List Int} {h1 : Value} {h2 : Value} {r0 : Bool} (e1 : Ent L (Rd 3 h1 (a1.map cTiii))) (e2 : Ent L (Rd 1 h2 (a2.map cI))) (hm : F14 a0 a1 a2 = some r0) {w : World} (st : St B L w) : Calls Try.prog 14 #[I a0, h1, h2] w (fun e w' => (e = .returned (.bool r0) ∧ St B (L) w')) := by
  refine calls_of (N := 121) (L := L) (args := [I a0, h1, h2]) Try.func14 rfl rfl rfl ?_ st
  dsimp only [F14] at hm
  refine TC.k ?_
  refine TC.region ?_
  refine TO.s rfl rfl rfl (StepS.assign rfl) ?_
  refine TO.code ?_
  refine TC.k ?_
  refine TC.region ?_
  refine TO.s rfl rfl rfl (StepS.move rfl) ?_
  refine TO.s rfl rfl rfl (StepS.move rfl) ?_
  refine TO.s rfl rfl rfl (StepS.move rfl) ?_
  obtain ⟨⟨r1, r2⟩, hc3, hm⟩ := bind_some hm
  refine TO.callO kcallB_39_true rfl rfl rfl (fun _ st => C39 e1 e2 hc3 st) ?_
  rintro _ _ ⟨v4, rfl, rfl⟩
  refine TO.s rfl rfl rfl (StepS.move rfl) ?_
  refine TO.s rfl rfl rfl (StepS.extract rfl rfl) ?_
  refine TO.s rfl rfl rfl (StepS.extract rfl rfl) ?_
  refine TO.s rfl rfl rfl (StepS.assign rfl) ?_
  refine TO.s rfl rfl rfl (StepS.assign rfl) ?_
  refine TO.code ?_
  refine TC.k ?_
  refine TC.region ?_
  refine TO.s rfl rfl rfl (StepS.move rfl) ?_
  refine TO.s rfl rfl rfl (StepS.move rfl) ?_
  refine TO.s rfl rfl rfl (StepS.move rfl) ?_
  obtain ⟨r6, hc7, hm⟩ := bind_some hm
  refine TO.q rfl rfl rfl (StepQ.call kcallB_34_true rfl rfl (fun _ st => C34 e1.tl e2.tl hc7 st)) ?_
  refine TO.s rfl rfl rfl (StepS.assign rfl) ?_
  refine TO.code ?_
  refine TC.k ?_
  refine TC.k ?_
  refine TC.region ?_
  refine TO.s rfl rfl rfl (StepS.move rfl) ?_
  refine TO.s rfl rfl rfl (StepS.cmp rfl rfl rfl) ?_
  refine TO.code ?_
  refine TC.cond rfl (fun hc8 => ?_) (fun hc8 => ?_)
  · replace hm := cond_t hc8 hm
    refine TC.k ?_
    refine TC.region ?_
    refine TO.s rfl rfl rfl (StepS.move rfl) ?_
    refine TO.s rfl rfl rfl (StepS.move rfl) ?_
    refine TO.s rfl rfl rfl (StepS.cmp rfl rfl rfl) ?_
    refine TO.s rfl rfl rfl (StepS.move rfl) ?_
    refine TO.mid1 4 38 (.bool ((r2 == r6) && ((r1.length : Int) == 0))) ?_ ?_
    · refine bcase ((r2 == r6)) (fun hb9 => ?_) (fun hb9 => ?_)
      · refine TO.sw rfl rfl rfl hb9 rfl rfl (StepS.move rfl) ?_
        refine TO.sw rfl rfl rfl hb9 rfl rfl (StepS.lenm rfl (OwnS.rd (Ent.at 0 rfl)) ksliceB_34_3_1_true rfl) ?_
        refine TO.sw rfl rfl rfl hb9 rfl rfl (StepS.cmp rfl rfl rfl) ?_
        refine TO.s rfl rfl rfl (StepS.pickT rfl hb9 rfl) ?_
        exact TO.up1 4 0 rfl rfl (by rw [hb9]; rfl) rfl
      · refine TO.skip rfl rfl rfl (skipF hb9) rfl rfl ?_
        refine TO.skip rfl rfl rfl (skipF hb9) rfl rfl ?_
        refine TO.skip rfl rfl rfl (skipF hb9) rfl rfl ?_
        refine TO.s rfl rfl rfl (StepS.pickF rfl hb9 rfl) ?_
        exact TO.up1 4 0 rfl rfl (by rw [hb9]; rfl) rfl
    refine TO.s rfl rfl rfl (StepS.assign rfl) ?_
    refine TO.code ?_
    cases hm
    refine TC.ret fun a w e s => ?_
    refine FRet.mk1 (P := Try.prog) (fn := Try.f14) (t := 6) e rfl rfl ?_
    exact ⟨rfl, s.mono fun _ => Sat.dropN 1⟩
  · replace hm := cond_f hc8 hm
    refine TC.skipk ?_
    refine TC.k ?_
    refine TC.region ?_
    refine TO.s rfl rfl rfl (StepS.move rfl) ?_
    refine TO.s rfl rfl rfl (StepS.move rfl) ?_
    refine TO.s rfl rfl rfl (StepS.move rfl) ?_
    obtain ⟨⟨r10, r11⟩, hc12, hm⟩ := bind_some hm
    refine TO.callO kcallB_35_true rfl rfl rfl (fun _ st => C35 e1.tl e2.tl hc12 st) ?_
    rintro _ _ ⟨v13, rfl, rfl⟩
    refine TO.s rfl rfl rfl (StepS.move rfl) ?_
    refine TO.s rfl rfl rfl (StepS.extract rfl rfl) ?_
    refine TO.s rfl rfl rfl (StepS.extract rfl rfl) ?_
    refine TO.s rfl rfl rfl (StepS.assign rfl) ?_
    refine TO.s rfl rfl rfl (StepS.assign rfl) ?_
    refine TO.code ?_
    refine TC.k ?_
    refine TC.k ?_
    refine TC.region ?_
    refine TO.s rfl rfl rfl (StepS.move rfl) ?_
    refine TO.s rfl rfl rfl (StepS.move rfl) ?_
    obtain ⟨r15, hc16, hm⟩ := bind_some hm
    refine TO.q rfl rfl rfl (StepQ.call kcallB_36_true rfl rfl (fun _ st => C36 e1.tl.tl (OwnS.rd (Ent.at 0 rfl)) hc16 st)) ?_
    refine TO.s rfl rfl rfl (StepS.not rfl) ?_
    refine TO.code ?_
    refine TC.cond rfl (fun hc17 => ?_) (fun hc17 => ?_)
    · replace hm := cond_t hc17 hm
      refine TC.k ?_
      refine TC.region ?_
      refine TO.s rfl rfl rfl (StepS.move rfl) ?_
      refine TO.s rfl rfl rfl (StepS.cmp rfl rfl rfl) ?_
      refine TO.s rfl rfl rfl (StepS.move rfl) ?_
      refine TO.mid1 4 56 (.bool ((r2 == 5) && ((r1.length : Int) == 0))) ?_ ?_
      · refine bcase ((r2 == 5)) (fun hb18 => ?_) (fun hb18 => ?_)
        · refine TO.sw rfl rfl rfl hb18 rfl rfl (StepS.move rfl) ?_
          refine TO.sw rfl rfl rfl hb18 rfl rfl (StepS.lenm rfl (OwnS.rd (Ent.at 1 rfl)) ksliceB_34_3_1_true rfl) ?_
          refine TO.sw rfl rfl rfl hb18 rfl rfl (StepS.cmp rfl rfl rfl) ?_
          refine TO.s rfl rfl rfl (StepS.pickT rfl hb18 rfl) ?_
          exact TO.up1 4 0 rfl rfl (by rw [hb18]; rfl) rfl
        · refine TO.skip rfl rfl rfl (skipF hb18) rfl rfl ?_
          refine TO.skip rfl rfl rfl (skipF hb18) rfl rfl ?_
          refine TO.skip rfl rfl rfl (skipF hb18) rfl rfl ?_
          refine TO.s rfl rfl rfl (StepS.pickF rfl hb18 rfl) ?_
          exact TO.up1 4 0 rfl rfl (by rw [hb18]; rfl) rfl
      refine TO.s rfl rfl rfl (StepS.assign rfl) ?_
      refine TO.code ?_
      cases hm
      refine TC.ret fun a w e s => ?_
      refine FRet.mk1 (P := Try.prog) (fn := Try.f14) (t := 6) e rfl rfl ?_
      exact ⟨rfl, s.mono fun _ => Sat.dropN 2⟩
    · replace hm := cond_f hc17 hm
      refine TC.skipk ?_
      refine TC.k ?_
      refine TC.region ?_
      refine TO.s rfl rfl rfl (StepS.assign rfl) ?_
      refine TO.code ?_
      refine TC.k ?_
      refine TC.k ?_
      refine TC.region ?_
      refine TO.s rfl rfl rfl (StepS.assign rfl) ?_
      refine TO.code ?_
      obtain ⟨o30, hw31, hm⟩ := bind_some hm
      refine TC.loop hw31 (fun (y21, x22) => fun a w => ∃ v19 : Value, Mid 121 B [(1, h1), (7, v4), (8, I r2), (10, v13), (12, v19), (13, I x22)] (OwnS 3 1 v19 (y21.map cI) :: OwnS 4 1 v13 (r10.map cB) :: OwnS 3 1 v4 (r1.map cI) :: L) a w) (fun y29 => fun a w => ∃ v27 : Value, Mid 121 B [(7, v4), (8, I r2), (12, v27)] (OwnS 3 1 v27 (y29.map cI) :: OwnS 4 1 v13 (r10.map cB) :: OwnS 3 1 v4 (r1.map cI) :: L) a w) (fun (_ : Unit) _ _ => False) ?_ ?_ ?_ ?_
      · rintro ⟨y21, x22⟩ o30r hb32 a w ⟨v19, he, hs⟩
        dsimp only [F14_L0] at hb32
        refine TC.use ?_ he hs
        refine TC.k ?_
        refine TC.k ?_
        refine TC.region ?_
        refine TO.s rfl rfl rfl (StepS.move rfl) ?_
        refine TO.s rfl rfl rfl (StepS.cmp rfl rfl rfl) ?_
        refine TO.code ?_
        refine TC.cond rfl (fun hc33 => ?_) (fun hc33 => ?_)
        · replace hb32 := cond_t hc33 hb32
          refine TC.skipk ?_
          refine TC.k ?_
          obtain ⟨y34, hj36, hb32⟩ := bind_some hb32
          first | refine TC.cutM (fun a w => ∃ v35 : Value, Mid 121 B [(1, h1), (7, v4), (8, I r2), (10, v13), (12, v35), (13, I x22)] (OwnS 3 1 v35 (y34.map cI) :: OwnS 4 1 v13 (r10.map cB) :: OwnS 3 1 v4 (r1.map cI) :: L) a w) ?_ ?_ | refine TC.cutX (fun a w => ∃ v35 : Value, Mid 121 B [(1, h1), (7, v4), (8, I r2), (10, v13), (12, v35), (13, I x22)] (OwnS 3 1 v35 (y34.map cI) :: OwnS 4 1 v13 (r10.map cB) :: OwnS 3 1 v4 (r1.map cI) :: L) a w) ?_ ?_
          · refine TC.block ?_
            refine TC.k ?_
            refine TC.region ?_
            refine TO.s rfl rfl rfl (StepS.assign rfl) ?_
            refine TO.code ?_
            refine TC.k ?_
            refine TC.region ?_
            refine TO.s rfl rfl rfl (StepS.assign rfl) ?_
            refine TO.code ?_
            refine TC.k ?_
            refine TC.k ?_
            refine TC.region ?_
            refine TO.s rfl rfl rfl (StepS.move rfl) ?_
            refine TO.s rfl rfl rfl (StepS.lenm rfl e1.tl.tl.tl ksliceB_22_58_3_true rfl) ?_
            refine TO.s rfl rfl rfl (StepS.move rfl) ?_
            refine TO.code ?_
            obtain ⟨o45, hw46, hj36⟩ := bind_some hj36
            refine TC.loop hw46 (fun (b37, b38, x39) => fun a w => Mid 121 B [(1, h1), (7, v4), (8, I r2), (10, v13), (12, v19), (13, I x22), (14, .bool b37), (15, .bool b38), (61, h1), (62, I (a1.length : Int)), (63, I x39)] (OwnS 3 1 v19 (y21.map cI) :: OwnS 4 1 v13 (r10.map cB) :: OwnS 3 1 v4 (r1.map cI) :: L) a w) (fun (b43, b44) => fun a w => Mid 121 B [(1, h1), (7, v4), (8, I r2), (10, v13), (12, v19), (13, I x22), (14, .bool b43), (15, .bool b44)] (OwnS 3 1 v19 (y21.map cI) :: OwnS 4 1 v13 (r10.map cB) :: OwnS 3 1 v4 (r1.map cI) :: L) a w) (fun (_ : Unit) _ _ => False) ?_ ?_ ?_ ?_
            · rintro ⟨b37, b38, x39⟩ o45r hb47 a w ⟨he, hs⟩
              dsimp only [F14_L1] at hb47
              refine TC.use ?_ he hs
              refine TC.k ?_
              refine TC.region ?_
              refine TO.s rfl rfl rfl (StepS.cmp rfl rfl rfl) ?_
              refine TO.code ?_
              refine TC.k ?_
              refine TC.cond rfl (fun hc48 => ?_) (fun hc48 => ?_)
              · replace hb47 := cond_t hc48 hb47
                refine TC.skipk ?_
                refine TC.k ?_
                refine TC.block ?_
                refine TC.k ?_
                refine TC.region ?_
                refine TO.s rfl rfl rfl (StepS.move rfl) ?_
                obtain ⟨x49, hx50, hb47⟩ := bind_some hb47
                refine TO.s rfl rfl rfl (StepS.idx rfl rfl e1.tl.tl.tl ksliceB_22_58_3_true (idx_spec hx50).1 (idxm_lt hx50)) ?_
                refine TO.s rfl rfl rfl (StepS.ldE rfl e1.tl.tl.tl kaggB_58_3_true rfl (idxm hx50)) ?_
                refine TO.alloc kinfo_58_bind_zero_some_agg_I_0_I_0_I_0 rfl rfl fun b51 => ?_
                refine TO.s rfl rfl rfl (StepS.assign rfl) ?_
                refine TO.stB (us := [I x49.1, I x49.2.1, I x49.2.2]) 0 [I x49.1, I x49.2.1, I x49.2.2] rfl rfl rfl ksizeB_58_3_true rfl rfl rfl (by simp [Value.oneCell']) rfl ?_
                refine TO.code ?_
                refine TC.k ?_
                refine TC.region ?_
                refine TO.s rfl rfl rfl (StepS.move rfl) ?_
                refine TO.s rfl rfl rfl (StepS.move rfl) ?_
                obtain ⟨b53, hj54, hb47⟩ := bind_some hb47
                refine TO.mid1 16 85 (.bool b53) ?_ ?_
                · refine bcase (b37) (fun hb52 => ?_) (fun hb52 => ?_)
                  · replace hj54 := cond_t hb52 hj54
                    cases hj54
                    refine TO.skip rfl rfl rfl (skipT hb52) rfl rfl ?_
                    refine TO.skip rfl rfl rfl (skipT hb52) rfl rfl ?_
                    refine TO.skip rfl rfl rfl (skipT hb52) rfl rfl ?_
                    refine TO.skip rfl rfl rfl (skipT hb52) rfl rfl ?_
                    refine TO.skip rfl rfl rfl (skipT hb52) rfl rfl ?_
                    refine TO.skip rfl rfl rfl skipU rfl rfl ?_
                    refine TO.skip rfl rfl rfl skipU rfl rfl ?_
                    refine TO.skip rfl rfl rfl skipU rfl rfl ?_
                    refine TO.skip rfl rfl rfl (skipT hb52) rfl rfl ?_
                    refine TO.skip rfl rfl rfl (skipT hb52) rfl rfl ?_
                    refine TO.skip rfl rfl rfl skipU rfl rfl ?_
                    refine TO.skip rfl rfl rfl skipU rfl rfl ?_
                    refine TO.skip rfl rfl rfl skipU rfl rfl ?_
                    refine TO.skip rfl rfl rfl skipU rfl rfl ?_
                    refine TO.skip rfl rfl rfl (skipT hb52) rfl rfl ?_
                    refine TO.s rfl rfl rfl (StepS.pickT rfl hb52 rfl) ?_
                    exact TO.up1 16 0 rfl rfl rfl rfl
                  · replace hj54 := cond_f hb52 hj54
                    refine TO.sw rfl rfl rfl hb52 rfl rfl (StepS.move rfl) ?_
                    refine TO.sw rfl rfl rfl hb52 rfl rfl (StepS.move rfl) ?_
                    obtain ⟨x55, hx56, hj54⟩ := bind_some hj54
                    refine TO.sw rfl rfl rfl hb52 rfl rfl (StepS.idx rfl rfl (OwnS.rd (Ent.at 2 rfl)) ksliceB_28_4_1_true (idx_spec hx56).1 (idxm_lt hx56)) ?_
                    refine TO.sw rfl rfl rfl hb52 rfl rfl (StepS.ld0 rfl (OwnS.rd (Ent.at 2 rfl)) kscalB_4_true rfl (idxm hx56) rfl) ?_
                    refine TO.sw rfl rfl rfl hb52 rfl rfl (StepS.move rfl) ?_
                    refine TO.mid1 4 78 (.bool (x55 && (x49.2.1 == 2))) ?_ ?_
                    · refine bcase (x55) (fun hb57 => ?_) (fun hb57 => ?_)
                      · refine TO.sw rfl rfl rfl hb57 rfl rfl (StepS.fld rfl kfieldB_58_1_1_true) ?_
                        refine TO.sw rfl rfl rfl hb57 rfl rfl (StepS.ldB rfl (Ent.at 0 rfl) kscalB_3_true rfl) ?_
                        refine TO.sw rfl rfl rfl hb57 rfl rfl (StepS.cmp rfl rfl rfl) ?_
                        refine TO.sw rfl rfl rfl hb52 rfl rfl (StepS.pickT rfl hb57 rfl) ?_
                        exact TO.up1 4 0 rfl rfl (by rw [hb57]; rfl) rfl
                      · refine TO.skip rfl rfl rfl (skipF hb57) rfl rfl ?_
                        refine TO.skip rfl rfl rfl (skipF hb57) rfl rfl ?_
                        refine TO.skip rfl rfl rfl (skipF hb57) rfl rfl ?_
                        refine TO.sw rfl rfl rfl hb52 rfl rfl (StepS.pickF rfl hb57 rfl) ?_
                        exact TO.up1 4 0 rfl rfl (by rw [hb57]; rfl) rfl
                    refine TO.sw rfl rfl rfl hb52 rfl rfl (StepS.move rfl) ?_
                    refine TO.mid1 5 84 (.bool ((x55 && (x49.2.1 == 2)) && (x49.2.2 == x22))) ?_ ?_
                    · refine bcase ((x55 && (x49.2.1 == 2))) (fun hb58 => ?_) (fun hb58 => ?_)
                      · refine TO.sw rfl rfl rfl hb58 rfl rfl (StepS.fld rfl kfieldB_58_2_2_true) ?_
                        refine TO.sw rfl rfl rfl hb58 rfl rfl (StepS.ldB rfl (Ent.at 0 rfl) kscalB_3_true rfl) ?_
                        refine TO.sw rfl rfl rfl hb58 rfl rfl (StepS.move rfl) ?_
                        refine TO.sw rfl rfl rfl hb58 rfl rfl (StepS.cmp rfl rfl rfl) ?_
                        refine TO.sw rfl rfl rfl hb52 rfl rfl (StepS.pickT rfl hb58 rfl) ?_
                        exact TO.up1 5 0 rfl rfl (by rw [hb58]; rfl) rfl
                      · refine TO.skip rfl rfl rfl (skipF hb58) rfl rfl ?_
                        refine TO.skip rfl rfl rfl (skipF hb58) rfl rfl ?_
                        refine TO.skip rfl rfl rfl (skipF hb58) rfl rfl ?_
                        refine TO.skip rfl rfl rfl (skipF hb58) rfl rfl ?_
                        refine TO.sw rfl rfl rfl hb52 rfl rfl (StepS.pickF rfl hb58 rfl) ?_
                        exact TO.up1 5 0 rfl rfl (by rw [hb58]; rfl) rfl
                    cases hj54
                    refine TO.s rfl rfl rfl (StepS.pickF rfl hb52 rfl) ?_
                    exact TO.up1 9 0 rfl rfl rfl rfl
                refine TO.s rfl rfl rfl (StepS.assign rfl) ?_
                refine TO.code ?_
                refine TC.region ?_
                refine TO.s rfl rfl rfl (StepS.move rfl) ?_
                refine TO.s rfl rfl rfl (StepS.move rfl) ?_
                obtain ⟨b60, hj61, hb47⟩ := bind_some hb47
                refine TO.mid1 16 103 (.bool b60) ?_ ?_
                · refine bcase (b38) (fun hb59 => ?_) (fun hb59 => ?_)
                  · replace hj61 := cond_t hb59 hj61
                    cases hj61
                    refine TO.skip rfl rfl rfl (skipT hb59) rfl rfl ?_
                    refine TO.skip rfl rfl rfl (skipT hb59) rfl rfl ?_
                    refine TO.skip rfl rfl rfl (skipT hb59) rfl rfl ?_
                    refine TO.skip rfl rfl rfl (skipT hb59) rfl rfl ?_
                    refine TO.skip rfl rfl rfl (skipT hb59) rfl rfl ?_
                    refine TO.skip rfl rfl rfl skipU rfl rfl ?_
                    refine TO.skip rfl rfl rfl skipU rfl rfl ?_
                    refine TO.skip rfl rfl rfl skipU rfl rfl ?_
                    refine TO.skip rfl rfl rfl (skipT hb59) rfl rfl ?_
                    refine TO.skip rfl rfl rfl (skipT hb59) rfl rfl ?_
                    refine TO.skip rfl rfl rfl skipU rfl rfl ?_
                    refine TO.skip rfl rfl rfl skipU rfl rfl ?_
                    refine TO.skip rfl rfl rfl skipU rfl rfl ?_
                    refine TO.skip rfl rfl rfl skipU rfl rfl ?_
                    refine TO.skip rfl rfl rfl (skipT hb59) rfl rfl ?_
                    refine TO.s rfl rfl rfl (StepS.pickT rfl hb59 rfl) ?_
                    exact TO.up1 16 0 rfl rfl rfl rfl
                  · replace hj61 := cond_f hb59 hj61
                    refine TO.sw rfl rfl rfl hb59 rfl rfl (StepS.move rfl) ?_
                    refine TO.sw rfl rfl rfl hb59 rfl rfl (StepS.move rfl) ?_
                    obtain ⟨x62, hx63, hj61⟩ := bind_some hj61
                    refine TO.sw rfl rfl rfl hb59 rfl rfl (StepS.idx rfl rfl (OwnS.rd (Ent.at 2 rfl)) ksliceB_28_4_1_true (idx_spec hx63).1 (idxm_lt hx63)) ?_
                    refine TO.sw rfl rfl rfl hb59 rfl rfl (StepS.ld0 rfl (OwnS.rd (Ent.at 2 rfl)) kscalB_4_true rfl (idxm hx63) rfl) ?_
                    refine TO.sw rfl rfl rfl hb59 rfl rfl (StepS.move rfl) ?_
                    refine TO.mid1 4 96 (.bool (x62 && (x49.2.1 == 3))) ?_ ?_
                    · refine bcase (x62) (fun hb64 => ?_) (fun hb64 => ?_)
                      · refine TO.sw rfl rfl rfl hb64 rfl rfl (StepS.fld rfl kfieldB_58_1_1_true) ?_
                        refine TO.sw rfl rfl rfl hb64 rfl rfl (StepS.ldB rfl (Ent.at 0 rfl) kscalB_3_true rfl) ?_
                        refine TO.sw rfl rfl rfl hb64 rfl rfl (StepS.cmp rfl rfl rfl) ?_
                        refine TO.sw rfl rfl rfl hb59 rfl rfl (StepS.pickT rfl hb64 rfl) ?_
                        exact TO.up1 4 0 rfl rfl (by rw [hb64]; rfl) rfl
                      · refine TO.skip rfl rfl rfl (skipF hb64) rfl rfl ?_
                        refine TO.skip rfl rfl rfl (skipF hb64) rfl rfl ?_
                        refine TO.skip rfl rfl rfl (skipF hb64) rfl rfl ?_
                        refine TO.sw rfl rfl rfl hb59 rfl rfl (StepS.pickF rfl hb64 rfl) ?_
                        exact TO.up1 4 0 rfl rfl (by rw [hb64]; rfl) rfl
                    refine TO.sw rfl rfl rfl hb59 rfl rfl (StepS.move rfl) ?_
                    refine TO.mid1 5 102 (.bool ((x62 && (x49.2.1 == 3)) && (x49.2.2 == x22))) ?_ ?_
                    · refine bcase ((x62 && (x49.2.1 == 3))) (fun hb65 => ?_) (fun hb65 => ?_)
                      · refine TO.sw rfl rfl rfl hb65 rfl rfl (StepS.fld rfl kfieldB_58_2_2_true) ?_
                        refine TO.sw rfl rfl rfl hb65 rfl rfl (StepS.ldB rfl (Ent.at 0 rfl) kscalB_3_true rfl) ?_
                        refine TO.sw rfl rfl rfl hb65 rfl rfl (StepS.move rfl) ?_
                        refine TO.sw rfl rfl rfl hb65 rfl rfl (StepS.cmp rfl rfl rfl) ?_
                        refine TO.sw rfl rfl rfl hb59 rfl rfl (StepS.pickT rfl hb65 rfl) ?_
                        exact TO.up1 5 0 rfl rfl (by rw [hb65]; rfl) rfl
                      · refine TO.skip rfl rfl rfl (skipF hb65) rfl rfl ?_
                        refine TO.skip rfl rfl rfl (skipF hb65) rfl rfl ?_
                        refine TO.skip rfl rfl rfl (skipF hb65) rfl rfl ?_
                        refine TO.skip rfl rfl rfl (skipF hb65) rfl rfl ?_
                        refine TO.sw rfl rfl rfl hb59 rfl rfl (StepS.pickF rfl hb65 rfl) ?_
                        exact TO.up1 5 0 rfl rfl (by rw [hb65]; rfl) rfl
                    cases hj61
                    refine TO.s rfl rfl rfl (StepS.pickF rfl hb59 rfl) ?_
                    exact TO.up1 9 0 rfl rfl rfl rfl
                refine TO.s rfl rfl rfl (StepS.assign rfl) ?_
                refine TO.code ?_
                refine TC.region ?_
                refine TO.s rfl rfl rfl (StepS.ari rfl rfl rfl) ?_
                refine TO.s rfl rfl rfl (StepS.move rfl) ?_
                cases hb47
                refine TO.nil fun a w e s => ?_
                exact ⟨e.sub (lk_of_allIn ⟨rfl, rfl, rfl, rfl, rfl, rfl, rfl, rfl, rfl, rfl, rfl, trivial⟩), s.mono fun _ => Sat.dropN 1⟩
              · replace hb47 := cond_f hc48 hb47
                cases hb47
                refine TC.exit rfl fun a w e s => ?_
                exact ⟨e.sub (lk_of_allIn ⟨rfl, rfl, rfl, rfl, rfl, rfl, rfl, rfl, trivial⟩), s⟩
            · exact fun a w e s => ⟨e.sub (lk_of_allIn ⟨rfl, rfl, rfl, rfl, rfl, rfl, rfl, rfl, rfl, rfl, rfl, trivial⟩), s⟩
            · rintro ⟨b43, b44⟩ rfl a w ⟨he, hs⟩
              dsimp only [Ctl.on] at hj36
              refine TC.use ?_ he hs
              refine TC.k ?_
              refine TC.region ?_
              refine TO.s rfl rfl rfl (StepS.move rfl) ?_
              refine TO.s rfl rfl rfl (StepS.move rfl) ?_
              refine TO.mid1 3 109 (.bool (b43 && (!b44))) ?_ ?_
              · refine bcase (b43) (fun hb66 => ?_) (fun hb66 => ?_)
                · refine TO.sw rfl rfl rfl hb66 rfl rfl (StepS.move rfl) ?_
                  refine TO.sw rfl rfl rfl hb66 rfl rfl (StepS.not rfl) ?_
                  refine TO.s rfl rfl rfl (StepS.pickT rfl hb66 rfl) ?_
                  exact TO.up1 3 0 rfl rfl (by rw [hb66]; rfl) rfl
                · refine TO.skip rfl rfl rfl (skipF hb66) rfl rfl ?_
                  refine TO.skip rfl rfl rfl (skipF hb66) rfl rfl ?_
                  refine TO.s rfl rfl rfl (StepS.pickF rfl hb66 rfl) ?_
                  exact TO.up1 3 0 rfl rfl (by rw [hb66]; rfl) rfl
              refine TO.code ?_
              refine TC.cond rfl (fun hc67 => ?_) (fun hc67 => ?_)
              · replace hj36 := cond_t hc67 hj36
                refine TC.region ?_
                refine TO.s rfl rfl rfl (StepS.move rfl) ?_
                refine TO.s rfl rfl rfl (StepS.move rfl) ?_
                refine TO.litS (f := cI) ([x22] : List Int) kelemB_34_3_1_8_true kinfo_3_bind_zero_some_I_0 rfl rfl (fun _ => rfl) rfl rfl (by kernel_rfl) rfl fun v68 => ?_
                obtain ⟨y70, hk71, hj36⟩ := bind_some hj36
                refine TO.app (k := 1) (f := cI) kelemB_34_3_1_8_true (by decide) rfl rfl rfl (OwnS.rd (Ent.at 0 rfl)) hk71 (fun x c hc => by simp [Value.oneCell'] at hc ⊢; first | (obtain rfl := hc; rfl) | (rcases hc with rfl <;> rfl)) rfl rfl fun v72 => ?_
                refine TO.s rfl rfl rfl (StepS.assign rfl) ?_
                cases hj36
                refine TO.nil fun a w e s => ?_
                exact ⟨v72, e.sub (lk_of_allIn ⟨rfl, rfl, rfl, rfl, rfl, rfl, trivial⟩), s.mono fun _ => Sat.dropN 1⟩
              · replace hj36 := cond_f hc67 hj36
                cases hj36
                refine TC.skip fun a w e s => ?_
                exact ⟨v19, e.sub (lk_of_allIn ⟨rfl, rfl, rfl, rfl, rfl, rfl, trivial⟩), s⟩
            · rintro r rfl
              exact fun a w h => h.elim
          · intro a w ⟨v35, he, hs⟩
            refine TC.use ?_ he hs
            refine TC.region ?_
            refine TO.s rfl rfl rfl (StepS.move rfl) ?_
            refine TO.s rfl rfl rfl (StepS.ari rfl rfl rfl) ?_
            refine TO.s rfl rfl rfl (StepS.assign rfl) ?_
            cases hb32
            refine TO.nil fun a w e s => ?_
            exact ⟨v35, e.sub (lk_of_allIn ⟨rfl, rfl, rfl, rfl, rfl, rfl, trivial⟩), s⟩
        · replace hb32 := cond_f hc33 hb32
          cases hb32
          refine TC.exit rfl fun a w e s => ?_
          exact ⟨v19, e.sub (lk_of_allIn ⟨rfl, rfl, rfl, trivial⟩), s⟩
      · exact fun a w e s => ⟨.slice none 0 0, e.sub (lk_of_allIn ⟨rfl, rfl, rfl, rfl, rfl, rfl, trivial⟩), s.mono fun _ s => (by replace s := Sat.front 1 rfl s; replace s := Sat.front 1 rfl s; replace s := Sat.nilS (e := 3) (sz := 1) (f := cI) s; exact s)⟩
      · rintro y29 rfl a w ⟨v27, he, hs⟩
        dsimp only [Ctl.on] at hm
        refine TC.use ?_ he hs
        refine TC.k ?_
        refine TC.region ?_
        refine TO.s rfl rfl rfl (StepS.move rfl) ?_
        refine TO.s rfl rfl rfl (StepS.cmp rfl rfl rfl) ?_
        refine TO.s rfl rfl rfl (StepS.move rfl) ?_
        obtain ⟨b74, hj75, hm⟩ := bind_some hm
        refine TO.mid1 4 120 (.bool b74) ?_ ?_
        · refine bcase ((r2 == 0)) (fun hb73 => ?_) (fun hb73 => ?_)
          · replace hj75 := cond_t hb73 hj75
            refine TO.sw rfl rfl rfl hb73 rfl rfl (StepS.move rfl) ?_
            refine TO.sw rfl rfl rfl hb73 rfl rfl (StepS.move rfl) ?_
            obtain ⟨r76, hc77, hj75⟩ := bind_some hj75
            refine TO.qw rfl rfl rfl hb73 rfl rfl (StepQ.call kcallB_24_true rfl rfl (fun _ st => C24 (OwnS.rd (Ent.at 2 rfl)) (OwnS.rd (Ent.at 0 rfl)) hc77 st)) ?_
            cases hj75
            refine TO.s rfl rfl rfl (StepS.pickT rfl hb73 rfl) ?_
            exact TO.up1 4 0 rfl rfl rfl rfl
          · replace hj75 := cond_f hb73 hj75
            cases hj75
            refine TO.skip rfl rfl rfl (skipF hb73) rfl rfl ?_
            refine TO.skip rfl rfl rfl (skipF hb73) rfl rfl ?_
            refine TO.skip rfl rfl rfl (skipF hb73) rfl rfl ?_
            refine TO.s rfl rfl rfl (StepS.pickF rfl hb73 rfl) ?_
            exact TO.up1 4 0 rfl rfl rfl rfl
        refine TO.s rfl rfl rfl (StepS.assign rfl) ?_
        refine TO.code ?_
        cases hm
        refine TC.ret fun a w e s => ?_
        refine FRet.mk1 (P := Try.prog) (fn := Try.f14) (t := 6) e rfl rfl ?_
        exact ⟨rfl, s.mono fun _ => Sat.dropN 3⟩
      · rintro r rfl
        exact fun a w h => h.elim
end Go.Proofs.Ytmfidlalejdikaa
