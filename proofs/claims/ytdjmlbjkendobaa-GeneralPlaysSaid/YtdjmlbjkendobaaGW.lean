/-
  The walks: each Go function returns what its model says. Written by a program (gen.py).
-/
import Derived.Test.YtdjmlbjkendobaaProg
import Derived.KernelRfl
import Derived.Test.YtdjmlbjkendobaaGM
namespace Go.Proofs.Ytdjmlbjkendobaa
open Go Go.Bk
set_option linter.unusedVariables false
set_option linter.unnecessarySimpa false
theorem kfollows_mixedOrders_true : Try.prog.follows .mixedOrders = true := by kernel_rfl
theorem kfieldB_91_3_3_true : fieldB Try.prog 91 3 3 = true := by kernel_rfl
theorem kscalB_31_true : scalB Try.prog 31 = true := by kernel_rfl
theorem kfieldB_94_3_3_true : fieldB Try.prog 94 3 3 = true := by kernel_rfl
theorem kscalB_3_true : scalB Try.prog 3 = true := by kernel_rfl
theorem kfieldB_91_4_4_true : fieldB Try.prog 91 4 4 = true := by kernel_rfl
theorem kscalB_53_true : scalB Try.prog 53 = true := by kernel_rfl
theorem kfieldB_94_1_1_true : fieldB Try.prog 94 1 1 = true := by kernel_rfl
theorem ksliceB_53_4_1_true : sliceB Try.prog 53 4 1 = true := by kernel_rfl
theorem kscalB_4_true : scalB Try.prog 4 = true := by kernel_rfl
theorem kfieldB_94_2_2_true : fieldB Try.prog 94 2 2 = true := by kernel_rfl
theorem kfieldB_91_2_2_true : fieldB Try.prog 91 2 2 = true := by kernel_rfl
theorem kfieldB_94_4_4_true : fieldB Try.prog 94 4 4 = true := by kernel_rfl
theorem kscalB_92_true : scalB Try.prog 92 = true := by kernel_rfl
theorem kcallB_82_true : callB Try.prog 82 = true := by kernel_rfl
theorem kfieldB_94_0_0_true : fieldB Try.prog 94 0 0 = true := by kernel_rfl
theorem kfieldB_91_1_1_true : fieldB Try.prog 91 1 1 = true := by kernel_rfl
theorem kfieldB_91_0_0_true : fieldB Try.prog 91 0 0 = true := by kernel_rfl
theorem kcallB_83_true : callB Try.prog 83 = true := by kernel_rfl
theorem kcallB_60_true : callB Try.prog 60 = true := by kernel_rfl
theorem kelemB_53_4_1_1_true : elemB Try.prog 53 4 1 1 = true := by kernel_rfl
theorem kinfo_4_bind_zero_some_bool_false : (Try.prog.info? 4).bind (·.zero) = some (.bool false) := by kernel_rfl
theorem kintB_3_i64_true : intB Try.prog 3 .i64 = true := by kernel_rfl
theorem kintB_42_u64_true : intB Try.prog 42 .u64 = true := by kernel_rfl
theorem ksliceB_22_3_1_true : sliceB Try.prog 22 3 1 = true := by kernel_rfl
theorem kcallB_23_true : callB Try.prog 23 = true := by kernel_rfl
theorem kcallB_61_true : callB Try.prog 61 = true := by kernel_rfl
theorem kcallB_62_true : callB Try.prog 62 = true := by kernel_rfl
theorem kelemB_22_3_1_8_true : elemB Try.prog 22 3 1 8 = true := by kernel_rfl
theorem kinfo_3_bind_zero_some_I_0 : (Try.prog.info? 3).bind (·.zero) = some (I 0) := by kernel_rfl
theorem kcallB_37_true : callB Try.prog 37 = true := by kernel_rfl
theorem kcallB_36_true : callB Try.prog 36 = true := by kernel_rfl
theorem kunderlying_4_some_bool : Try.prog.underlying 4 = some .bool := by kernel_rfl

set_option maxRecDepth 100000 in
theorem C82_B {B : World} (rec82 : Int → Int → Bool → (BitVec 32) → (List Bool) → (List ((BitVec 32) × Int × Int × Int)) → Int → Option (Bool)) (ih : ∀ {L : List HP} {a0_0 : Int} {a0_1 : Int} {a0_2 : Bool} {a0_3 : BitVec 32} {a0_4 : List Bool} {a1 : List ((BitVec 32) × Int × Int × Int)} {a2 : Int} {b0_ : Nat} {h0_4 : Value} {h1 : Value} {k1_ : List Value} {r0 : Bool} (g0 : Ent L (Bx b0_ 91 [I a0_0, I a0_1, .bool a0_2, U a0_3, h0_4])) (e0_4 : Ent L (Rd 1 h0_4 (a0_4.map cB))) (e1 : Ent L (Lk 94 cL94 h1 k1_ a1)) (hm : rec82 a0_0 a0_1 a0_2 a0_3 a0_4 a1 a2 = some r0) {w : World} (st : St B L w), Calls Try.prog 82 #[.pointer (some ⟨b0_, 0, none⟩), h1, I a2] w (fun e w' => (e = .returned (.bool r0) ∧ St B (L) w'))) {L : List HP} {a0_0 : Int} {a0_1 : Int} {a0_2 : Bool} {a0_3 : BitVec 32} {a0_4 : List Bool} {a1 : List ((BitVec 32) × Int × Int × Int)} {a2 : Int} {b0_ : Nat} {h0_4 : Value} {h1 : Value} {k1_ : List Value} {r0 : Bool} (g0 : Ent L (Bx b0_ 91 [I a0_0, I a0_1, .bool a0_2, U a0_3, h0_4])) (e0_4 : Ent L (Rd 1 h0_4 (a0_4.map cB))) (e1 : Ent L (Lk 94 cL94 h1 k1_ a1)) (hm : F82_B rec82 a0_0 a0_1 a0_2 a0_3 a0_4 a1 a2 = some r0) {w : World} (st : St B L w) : Calls Try.prog 82 #[.pointer (some ⟨b0_, 0, none⟩), h1, I a2] w (fun e w' => (e = .returned (.bool r0) ∧ St B (L) w')) := by
  have oc1 := Lk.one e1 st.sat
  refine calls_of (N := 56) (L := L) (args := [.pointer (some ⟨b0_, 0, none⟩), h1, I a2]) Try.func82 rfl rfl rfl ?_ st
  dsimp only [F82_B] at hm
  refine TC.k ?_
  refine TC.region ?_
  refine TO.s rfl rfl rfl (StepS.assign rfl) ?_
  refine TO.code ?_
  refine TC.k ?_
  refine TC.k ?_
  refine TC.region_still kfollows_mixedOrders_true (by kernel_rfl) ?_
  refine TS.s rfl rfl rfl (StepS.move rfl) ?_
  refine TS.s rfl rfl rfl (StepS.nilc rfl) ?_
  refine TS.s rfl rfl rfl (StepS.fld rfl kfieldB_91_3_3_true) ?_
  refine TS.s rfl rfl rfl (StepS.ldB rfl g0 kscalB_31_true rfl) ?_
  refine TS.s rfl rfl rfl (StepS.move rfl) ?_
  obtain ⟨⟨x1, l2⟩, hx3, hm⟩ := bind_some hm
  refine TS.s rfl rfl rfl (StepS.lkn rfl e1 hx3) ?_
  refine TS.s rfl rfl rfl (StepS.lkf rfl e1 hx3 kfieldB_94_3_3_true) ?_
  refine TS.s rfl rfl rfl (StepS.lkl rfl e1 hx3 kscalB_3_true rfl) ?_
  obtain ⟨k4, hk5, hm⟩ := bind_some hm
  refine TS.s rfl rfl rfl (StepS.shrk rfl rfl hk5) ?_
  refine TS.s rfl rfl rfl (StepS.bitU (n := 1#32) rfl rfl rfl) ?_
  refine TS.s rfl rfl rfl (StepS.cmpU (n := 1#32) rfl rfl rfl) ?_
  refine TS.code ?_
  refine TC.cond rfl (fun hc6 => ?_) (fun hc6 => ?_)
  · replace hm := cond_t hc6 hm
    refine TC.k ?_
    refine TC.region_still kfollows_mixedOrders_true (by kernel_rfl) ?_
    refine TS.s rfl rfl rfl (StepS.move rfl) ?_
    refine TS.s rfl rfl rfl (StepS.nilc rfl) ?_
    refine TS.s rfl rfl rfl (StepS.fld rfl kfieldB_91_4_4_true) ?_
    refine TS.s rfl rfl rfl (StepS.ldB rfl g0 kscalB_53_true rfl) ?_
    refine TS.s rfl rfl rfl (StepS.move rfl) ?_
    refine TS.s rfl rfl rfl (StepS.lkn rfl e1 hx3) ?_
    refine TS.s rfl rfl rfl (StepS.lkf rfl e1 hx3 kfieldB_94_1_1_true) ?_
    refine TS.s rfl rfl rfl (StepS.lkl rfl e1 hx3 kscalB_3_true rfl) ?_
    refine TS.s rfl rfl rfl (StepS.ari rfl rfl rfl) ?_
    refine TS.s rfl rfl rfl (StepS.move rfl) ?_
    refine TS.s rfl rfl rfl (StepS.ari rfl rfl rfl) ?_
    refine TS.s rfl rfl rfl (StepS.move rfl) ?_
    refine TS.s rfl rfl rfl (StepS.nilc rfl) ?_
    refine TS.s rfl rfl rfl (StepS.fld rfl kfieldB_91_4_4_true) ?_
    refine TS.s rfl rfl rfl (StepS.ldB rfl g0 kscalB_53_true rfl) ?_
    refine TS.s rfl rfl rfl (StepS.lenm rfl e0_4 ksliceB_53_4_1_true rfl) ?_
    obtain ⟨u8, hd7, hm⟩ := bind_some hm
    refine TS.s rfl rfl rfl (StepS.rem rfl rfl (nz_spec hd7)) ?_
    obtain ⟨x9, hx10, hm⟩ := bind_some hm
    refine TS.s rfl rfl rfl (StepS.idx rfl rfl e0_4 ksliceB_53_4_1_true (idx_spec hx10).1 (idxm_lt hx10)) ?_
    refine TS.s rfl rfl rfl (StepS.ld0 rfl e0_4 kscalB_4_true rfl (idxm hx10) rfl) ?_
    refine TS.s rfl rfl rfl (StepS.assign rfl) ?_
    refine TS.code ?_
    cases hm
    refine TC.ret fun a w e s => ?_
    refine FRet.mk1 (P := Try.prog) (fn := Try.f82) (t := 6) e rfl rfl ?_
    exact ⟨rfl, s.mono fun _ => Sat.dropN 0⟩
  · replace hm := cond_f hc6 hm
    refine TC.skipk ?_
    refine TC.k ?_
    refine TC.k ?_
    refine TC.region ?_
    refine TO.s rfl rfl rfl (StepS.move rfl) ?_
    refine TO.s rfl rfl rfl (StepS.lkn rfl e1 hx3) ?_
    refine TO.s rfl rfl rfl (StepS.lkf rfl e1 hx3 kfieldB_94_2_2_true) ?_
    refine TO.s rfl rfl rfl (StepS.lkl rfl e1 hx3 kscalB_3_true rfl) ?_
    refine TO.s rfl rfl rfl (StepS.cmp rfl rfl rfl) ?_
    refine TO.code ?_
    refine TC.cond rfl (fun hc11 => ?_) (fun hc11 => ?_)
    · replace hm := cond_t hc11 hm
      refine TC.k ?_
      refine TC.region ?_
      refine TO.s rfl rfl rfl (StepS.move rfl) ?_
      refine TO.s rfl rfl rfl (StepS.nilc rfl) ?_
      refine TO.s rfl rfl rfl (StepS.fld rfl kfieldB_91_2_2_true) ?_
      refine TO.s rfl rfl rfl (StepS.ldB rfl g0 kscalB_4_true rfl) ?_
      refine TO.s rfl rfl rfl (StepS.assign rfl) ?_
      refine TO.code ?_
      cases hm
      refine TC.ret fun a w e s => ?_
      refine FRet.mk1 (P := Try.prog) (fn := Try.f82) (t := 6) e rfl rfl ?_
      exact ⟨rfl, s.mono fun _ => Sat.dropN 0⟩
    · replace hm := cond_f hc11 hm
      refine TC.skipk ?_
      refine TC.k ?_
      refine TC.region_quiet kfollows_mixedOrders_true (by kernel_rfl) ?_
      refine TQ.s rfl rfl rfl (StepS.move rfl).q ?_
      refine TQ.s rfl rfl rfl (StepS.move rfl).q ?_
      refine TQ.s rfl rfl rfl (StepS.lkn rfl e1 hx3).q ?_
      refine TQ.s rfl rfl rfl (StepS.lkf rfl e1 hx3 kfieldB_94_4_4_true).q ?_
      refine TQ.s rfl rfl rfl (StepS.lkl rfl e1 hx3 kscalB_92_true rfl).q ?_
      refine TQ.s rfl rfl rfl (StepS.move rfl).q ?_
      refine TQ.s rfl rfl rfl (StepS.lkn rfl e1 hx3).q ?_
      refine TQ.s rfl rfl rfl (StepS.lkf rfl e1 hx3 kfieldB_94_3_3_true).q ?_
      refine TQ.s rfl rfl rfl (StepS.lkl rfl e1 hx3 kscalB_3_true rfl).q ?_
      obtain ⟨r13, hc14, hm⟩ := bind_some hm
      refine TQ.s rfl rfl rfl (StepQ.call kcallB_82_true rfl rfl (fun _ st => ih g0 e0_4 (Lk.next e1 hx3) hc14 st)) ?_
      refine TQ.s rfl rfl rfl (StepS.assign rfl).q ?_
      refine TQ.code ?_
      cases hm
      refine TC.ret fun a w e s => ?_
      refine FRet.mk1 (P := Try.prog) (fn := Try.f82) (t := 6) e rfl rfl ?_
      exact ⟨rfl, s.mono fun _ => Sat.dropN 0⟩
theorem C82_R {B : World} : ∀ (n : Nat) {L : List HP} {a0_0 : Int} {a0_1 : Int} {a0_2 : Bool} {a0_3 : BitVec 32} {a0_4 : List Bool} {a1 : List ((BitVec 32) × Int × Int × Int)} {a2 : Int} {b0_ : Nat} {h0_4 : Value} {h1 : Value} {k1_ : List Value} {r0 : Bool} (g0 : Ent L (Bx b0_ 91 [I a0_0, I a0_1, .bool a0_2, U a0_3, h0_4])) (e0_4 : Ent L (Rd 1 h0_4 (a0_4.map cB))) (e1 : Ent L (Lk 94 cL94 h1 k1_ a1)) (hm : F82_R n a0_0 a0_1 a0_2 a0_3 a0_4 a1 a2 = some r0) {w : World} (st : St B L w), Calls Try.prog 82 #[.pointer (some ⟨b0_, 0, none⟩), h1, I a2] w (fun e w' => (e = .returned (.bool r0) ∧ St B (L) w')) := by
  intro n
  induction n with
  | zero => intro L a0_0 a0_1 a0_2 a0_3 a0_4 a1 a2 b0_ h0_4 h1 k1_ r0 g0 e0_4 e1 hm w st; cases hm
  | succ n ih => intro L a0_0 a0_1 a0_2 a0_3 a0_4 a1 a2 b0_ h0_4 h1 k1_ r0 g0 e0_4 e1 hm w st; exact C82_B (F82_R n) (@ih) g0 e0_4 e1 hm st
theorem C82 {B : World} {L : List HP} {a0_0 : Int} {a0_1 : Int} {a0_2 : Bool} {a0_3 : BitVec 32} {a0_4 : List Bool} {a1 : List ((BitVec 32) × Int × Int × Int)} {a2 : Int} {b0_ : Nat} {h0_4 : Value} {h1 : Value} {k1_ : List Value} {r0 : Bool} (g0 : Ent L (Bx b0_ 91 [I a0_0, I a0_1, .bool a0_2, U a0_3, h0_4])) (e0_4 : Ent L (Rd 1 h0_4 (a0_4.map cB))) (e1 : Ent L (Lk 94 cL94 h1 k1_ a1)) (hm : F82 a0_0 a0_1 a0_2 a0_3 a0_4 a1 a2 = some r0) {w : World} (st : St B L w) : Calls Try.prog 82 #[.pointer (some ⟨b0_, 0, none⟩), h1, I a2] w (fun e w' => (e = .returned (.bool r0) ∧ St B (L) w')) := by
  obtain ⟨n, hn⟩ := fixO_spec hm
  exact C82_R n g0 e0_4 e1 hn st

set_option maxRecDepth 100000 in
theorem C83 {B : World} {L : List HP} {a0 : List ((BitVec 32) × Int × Int × Int)} {a1 : Int} {h0 : Value} {k0_ : List Value} {r0 : List ((BitVec 32) × Int × Int × Int)} (e0 : Ent L (Lk 94 cL94 h0 k0_ a0)) (hm : F83 a0 a1 = some r0) {w : World} (st : St B L w) : Calls Try.prog 83 #[h0, I a1] w (fun e w' => ∃ v M, e = .returned v ∧ (∃ (qv1 : Value) (qA2 : HP) (qus3 : List Value) (qea4 : Ent (qA2 :: L) (Lk 94 cL94 qv1 qus3 r0)), v = qv1 ∧ M = (qA2 :: L)) ∧ St B M w') := by
  have oc0 := Lk.one e0 st.sat
  refine calls_of (N := 28) (L := L) (args := [h0, I a1]) Try.func83 rfl rfl rfl ?_ st
  dsimp only [F83] at hm
  refine TC.k ?_
  refine TC.region ?_
  refine TO.s rfl rfl rfl (StepS.assign rfl) ?_
  refine TO.code ?_
  refine TC.k ?_
  refine TC.region_tail 22 kfollows_mixedOrders_true (by kernel_rfl) ?_
  refine TS.s rfl rfl rfl (StepS.move rfl) ?_
  obtain ⟨⟨x2, l3⟩, hx4, hm⟩ := bind_some hm
  refine TS.s rfl rfl rfl (StepS.lkn rfl e0 hx4) ?_
  refine TS.s rfl rfl rfl (StepS.lkf rfl e0 hx4 kfieldB_94_0_0_true) ?_
  refine TS.s rfl rfl rfl (StepS.lkl rfl e0 hx4 kscalB_31_true rfl) ?_
  refine TS.s rfl rfl rfl (StepS.move rfl) ?_
  obtain ⟨k5, hk6, hm⟩ := bind_some hm
  refine TS.s rfl rfl rfl (StepS.shlk (m := 1#32) rfl rfl hk6) ?_
  refine TS.s rfl rfl rfl (StepS.bitU rfl rfl rfl) ?_
  refine TS.s rfl rfl rfl (StepS.move rfl) ?_
  refine TS.s rfl rfl rfl (StepS.lkn rfl e0 hx4) ?_
  refine TS.s rfl rfl rfl (StepS.lkf rfl e0 hx4 kfieldB_94_1_1_true) ?_
  refine TS.s rfl rfl rfl (StepS.lkl rfl e0 hx4 kscalB_3_true rfl) ?_
  refine TS.s rfl rfl rfl (StepS.ari rfl rfl rfl) ?_
  refine TS.s rfl rfl rfl (StepS.move rfl) ?_
  refine TS.s rfl rfl rfl (StepS.ari rfl rfl rfl) ?_
  refine TS.s rfl rfl rfl (StepS.move rfl) ?_
  refine TS.s rfl rfl rfl (StepS.lkn rfl e0 hx4) ?_
  refine TS.s rfl rfl rfl (StepS.lkf rfl e0 hx4 kfieldB_94_2_2_true) ?_
  refine TS.s rfl rfl rfl (StepS.lkl rfl e0 hx4 kscalB_3_true rfl) ?_
  refine TS.s rfl rfl rfl (StepS.ari rfl rfl rfl) ?_
  refine TS.s rfl rfl rfl (StepS.move rfl) ?_
  refine TS.s rfl rfl rfl (StepS.move rfl) ?_
  refine TS.s rfl rfl rfl (StepS.buildS (us := [(0, U (x2.1 ||| ((1#32) <<< k5))), (1, I (w64 ((w64 (x2.2.1 * 8)) + a1))), (2, I (w64 (x2.2.2.1 + 1))), (3, I a1), (4, .agg #[h0])]) (cs := [U (x2.1 ||| ((1#32) <<< k5)), I (w64 ((w64 (x2.2.1 * 8)) + a1)), I (w64 (x2.2.2.1 + 1)), I a1, h0]) rfl (by simp only [List.map_cons, List.map_nil, oc0.2]; rfl) (by kernel_rfl)) ?_
  refine TS.nil ?_
  refine TO.at ?_
  refine TO.box (cs := [U (x2.1 ||| ((1#32) <<< k5)), I (w64 ((w64 (x2.2.1 * 8)) + a1)), I (w64 (x2.2.2.1 + 1)), I a1, h0]) rfl rfl rfl fun b7 => ?_
  refine TO.s rfl rfl rfl (StepS.assign rfl) ?_
  refine TO.code ?_
  cases hm
  refine TC.ret fun a w e s => ?_
  refine FRet.mk1 (P := Try.prog) (fn := Try.f83) (t := 4) e rfl rfl ?_
  exact ⟨_, _, rfl, ⟨.pointer (some ⟨b7, 0, none⟩), G [Bx b7 94 [U (x2.1 ||| ((1#32) <<< k5)), I (w64 ((w64 (x2.2.1 * 8)) + a1)), I (w64 (x2.2.2.1 + 1)), I a1, h0]], _, Ent.gather (M := [Bx b7 94 [U (x2.1 ||| ((1#32) <<< k5)), I (w64 ((w64 (x2.2.1 * 8)) + a1)), I (w64 (x2.2.2.1 + 1)), I a1, h0]]) (Lk.consE (cf := cL94) (x := ((x2.1 ||| ((1#32) <<< k5)), w64 ((w64 (x2.2.1 * 8)) + a1), w64 (x2.2.2.1 + 1), a1)) (Ent.at 0 rfl) rfl e0.tl), rfl, rfl⟩, s.mono fun _ s => Sat.gather (M := [Bx b7 94 [U (x2.1 ||| ((1#32) <<< k5)), I (w64 ((w64 (x2.2.1 * 8)) + a1)), I (w64 (x2.2.2.1 + 1)), I a1, h0]]) s⟩

set_option maxRecDepth 100000 in
theorem C60_B {B : World} (rec60 : Int → Int → Bool → (BitVec 32) → (List Bool) → (List ((BitVec 32) × Int × Int × Int)) → Int → Option (Bool)) (ih : ∀ {L : List HP} {a0_0 : Int} {a0_1 : Int} {a0_2 : Bool} {a0_3 : BitVec 32} {a0_4 : List Bool} {a1 : List ((BitVec 32) × Int × Int × Int)} {a2 : Int} {b0_ : Nat} {h0_4 : Value} {h1 : Value} {k1_ : List Value} {r0 : Bool} (g0 : Ent L (Bx b0_ 91 [I a0_0, I a0_1, .bool a0_2, U a0_3, h0_4])) (e0_4 : Ent L (Rd 1 h0_4 (a0_4.map cB))) (e1 : Ent L (Lk 94 cL94 h1 k1_ a1)) (hm : rec60 a0_0 a0_1 a0_2 a0_3 a0_4 a1 a2 = some r0) {w : World} (st : St B L w), Calls Try.prog 60 #[.pointer (some ⟨b0_, 0, none⟩), h1, I a2] w (fun e w' => (e = .returned (.bool r0) ∧ St B (L) w'))) {L : List HP} {a0_0 : Int} {a0_1 : Int} {a0_2 : Bool} {a0_3 : BitVec 32} {a0_4 : List Bool} {a1 : List ((BitVec 32) × Int × Int × Int)} {a2 : Int} {b0_ : Nat} {h0_4 : Value} {h1 : Value} {k1_ : List Value} {r0 : Bool} (g0 : Ent L (Bx b0_ 91 [I a0_0, I a0_1, .bool a0_2, U a0_3, h0_4])) (e0_4 : Ent L (Rd 1 h0_4 (a0_4.map cB))) (e1 : Ent L (Lk 94 cL94 h1 k1_ a1)) (hm : F60_B rec60 a0_0 a0_1 a0_2 a0_3 a0_4 a1 a2 = some r0) {w : World} (st : St B L w) : Calls Try.prog 60 #[.pointer (some ⟨b0_, 0, none⟩), h1, I a2] w (fun e w' => (e = .returned (.bool r0) ∧ St B (L) w')) := by
  have oc1 := Lk.one e1 st.sat
  refine calls_of (N := 59) (L := L) (args := [.pointer (some ⟨b0_, 0, none⟩), h1, I a2]) Try.func60 rfl rfl rfl ?_ st
  dsimp only [F60_B] at hm
  refine TC.k ?_
  refine TC.region ?_
  refine TO.s rfl rfl rfl (StepS.assign rfl) ?_
  refine TO.code ?_
  refine TC.k ?_
  refine TC.region ?_
  refine TO.s rfl rfl rfl (StepS.move rfl) ?_
  refine TO.s rfl rfl rfl (StepS.move rfl) ?_
  refine TO.s rfl rfl rfl (StepS.move rfl) ?_
  obtain ⟨r1, hc2, hm⟩ := bind_some hm
  refine TO.q rfl rfl rfl (StepQ.call kcallB_82_true rfl rfl (fun _ st => C82 g0 e0_4 e1 hc2 st)) ?_
  refine TO.s rfl rfl rfl (StepS.assign rfl) ?_
  refine TO.code ?_
  refine TC.k ?_
  refine TC.k ?_
  refine TC.region_still kfollows_mixedOrders_true (by kernel_rfl) ?_
  refine TS.s rfl rfl rfl (StepS.move rfl) ?_
  obtain ⟨⟨x3, l4⟩, hx5, hm⟩ := bind_some hm
  refine TS.s rfl rfl rfl (StepS.lkn rfl e1 hx5) ?_
  refine TS.s rfl rfl rfl (StepS.lkf rfl e1 hx5 kfieldB_94_2_2_true) ?_
  refine TS.s rfl rfl rfl (StepS.lkl rfl e1 hx5 kscalB_3_true rfl) ?_
  refine TS.s rfl rfl rfl (StepS.move rfl) ?_
  refine TS.s rfl rfl rfl (StepS.nilc rfl) ?_
  refine TS.s rfl rfl rfl (StepS.fld rfl kfieldB_91_1_1_true) ?_
  refine TS.s rfl rfl rfl (StepS.ldB rfl g0 kscalB_3_true rfl) ?_
  refine TS.s rfl rfl rfl (StepS.ari rfl rfl rfl) ?_
  refine TS.s rfl rfl rfl (StepS.cmp rfl rfl rfl) ?_
  refine TS.code ?_
  refine TC.cond rfl (fun hc6 => ?_) (fun hc6 => ?_)
  · replace hm := cond_t hc6 hm
    refine TC.k ?_
    refine TC.region ?_
    refine TO.s rfl rfl rfl (StepS.move rfl) ?_
    refine TO.s rfl rfl rfl (StepS.assign rfl) ?_
    refine TO.code ?_
    cases hm
    refine TC.ret fun a w e s => ?_
    refine FRet.mk1 (P := Try.prog) (fn := Try.f60) (t := 6) e rfl rfl ?_
    exact ⟨rfl, s.mono fun _ => Sat.dropN 0⟩
  · replace hm := cond_f hc6 hm
    refine TC.skipk ?_
    refine TC.k ?_
    refine TC.region ?_
    refine TO.s rfl rfl rfl (StepS.assign rfl) ?_
    refine TO.code ?_
    refine TC.k ?_
    refine TC.k ?_
    refine TC.region ?_
    refine TO.s rfl rfl rfl (StepS.move rfl) ?_
    refine TO.code ?_
    obtain ⟨x7, hj8, hm⟩ := bind_some hm
    first | refine TC.cutM (fun a w => Mid 59 B [(0, .pointer (some ⟨b0_, 0, none⟩)), (1, h1), (2, I a2), (8, I x7)] (L) a w) ?_ ?_ | refine TC.cutX (fun a w => Mid 59 B [(0, .pointer (some ⟨b0_, 0, none⟩)), (1, h1), (2, I a2), (8, I x7)] (L) a w) ?_ ?_
    · refine TC.cond rfl (fun hc9 => ?_) (fun hc9 => ?_)
      · replace hj8 := cond_t hc9 hj8
        refine TC.region ?_
        refine TO.s rfl rfl rfl (StepS.assign rfl) ?_
        cases hj8
        refine TO.nil fun a w e s => ?_
        exact ⟨e.sub (lk_of_allIn ⟨rfl, rfl, rfl, rfl, trivial⟩), s⟩
      · replace hj8 := cond_f hc9 hj8
        cases hj8
        refine TC.skip fun a w e s => ?_
        exact ⟨e.sub (lk_of_allIn ⟨rfl, rfl, rfl, rfl, trivial⟩), s⟩
    · intro a w ⟨he, hs⟩
      refine TC.use ?_ he hs
      refine TC.k ?_
      refine TC.k ?_
      refine TC.region ?_
      refine TO.s rfl rfl rfl (StepS.move rfl) ?_
      refine TO.s rfl rfl rfl (StepS.nilc rfl) ?_
      refine TO.s rfl rfl rfl (StepS.fld rfl kfieldB_91_0_0_true) ?_
      refine TO.s rfl rfl rfl (StepS.ldB rfl g0 kscalB_3_true rfl) ?_
      refine TO.s rfl rfl rfl (StepS.move rfl) ?_
      refine TO.code ?_
      obtain ⟨o15, hw16, hm⟩ := bind_some hm
      refine TC.loop hw16 (fun (x10, x11) => fun a w => Mid 59 B [(0, .pointer (some ⟨b0_, 0, none⟩)), (1, h1), (2, I a2), (8, I x10), (29, I a0_0), (30, I x11)] (L) a w) (fun x14 => fun a w => Mid 59 B [(8, I x14)] (L) a w) (fun (_ : Unit) _ _ => False) ?_ ?_ ?_ ?_
      · rintro ⟨x10, x11⟩ o15r hb17 a w ⟨he, hs⟩
        dsimp only [F60_L0] at hb17
        refine TC.use ?_ he hs
        refine TC.k ?_
        refine TC.region ?_
        refine TO.s rfl rfl rfl (StepS.cmp rfl rfl rfl) ?_
        refine TO.code ?_
        refine TC.k ?_
        refine TC.cond rfl (fun hc18 => ?_) (fun hc18 => ?_)
        · replace hb17 := cond_t hc18 hb17
          refine TC.skipk ?_
          refine TC.k ?_
          obtain ⟨x19, hj20, hb17⟩ := bind_some hb17
          first | refine TC.cutM (fun a w => Mid 59 B [(0, .pointer (some ⟨b0_, 0, none⟩)), (1, h1), (2, I a2), (8, I x19), (29, I a0_0), (30, I x11)] (L) a w) ?_ ?_ | refine TC.cutX (fun a w => Mid 59 B [(0, .pointer (some ⟨b0_, 0, none⟩)), (1, h1), (2, I a2), (8, I x19), (29, I a0_0), (30, I x11)] (L) a w) ?_ ?_
          · refine TC.block ?_
            refine TC.k ?_
            refine TC.region ?_
            refine TO.s rfl rfl rfl (StepS.move rfl) ?_
            refine TO.s rfl rfl rfl (StepS.assign rfl) ?_
            refine TO.code ?_
            refine TC.k ?_
            refine TC.k ?_
            refine TC.region ?_
            refine TO.s rfl rfl rfl (StepS.move rfl) ?_
            refine TO.s rfl rfl rfl (StepS.move rfl) ?_
            refine TO.s rfl rfl rfl (StepS.cmp rfl rfl rfl) ?_
            refine TO.s rfl rfl rfl (StepS.move rfl) ?_
            obtain ⟨b22, hj23, hj20⟩ := bind_some hj20
            refine TO.mid1 9 45 (.bool b22) ?_ ?_
            · refine bcase ((x11 == a2)) (fun hb21 => ?_) (fun hb21 => ?_)
              · replace hj23 := cond_t hb21 hj23
                cases hj23
                refine TO.skip rfl rfl rfl (skipT hb21) rfl rfl ?_
                refine TO.skip rfl rfl rfl (skipT hb21) rfl rfl ?_
                refine TO.skip rfl rfl rfl (skipT hb21) rfl rfl ?_
                refine TO.skip rfl rfl rfl (skipT hb21) rfl rfl ?_
                refine TO.skip rfl rfl rfl (skipT hb21) rfl rfl ?_
                refine TO.skip rfl rfl rfl (skipT hb21) rfl rfl ?_
                refine TO.skip rfl rfl rfl (skipT hb21) rfl rfl ?_
                refine TO.skip rfl rfl rfl (skipT hb21) rfl rfl ?_
                refine TO.s rfl rfl rfl (StepS.pickT rfl hb21 rfl) ?_
                exact TO.up1 9 0 rfl rfl rfl rfl
              · replace hj23 := cond_f hb21 hj23
                refine TO.sw rfl rfl rfl hb21 rfl rfl (StepS.move rfl) ?_
                refine TO.sw rfl rfl rfl hb21 rfl rfl (StepS.lkn rfl e1 hx5) ?_
                refine TO.sw rfl rfl rfl hb21 rfl rfl (StepS.lkf rfl e1 hx5 kfieldB_94_0_0_true) ?_
                refine TO.sw rfl rfl rfl hb21 rfl rfl (StepS.lkl rfl e1 hx5 kscalB_31_true rfl) ?_
                refine TO.sw rfl rfl rfl hb21 rfl rfl (StepS.move rfl) ?_
                obtain ⟨k24, hk25, hj23⟩ := bind_some hj23
                refine TO.sw rfl rfl rfl hb21 rfl rfl (StepS.shrk rfl rfl hk25) ?_
                refine TO.sw rfl rfl rfl hb21 rfl rfl (StepS.bitU (n := 1#32) rfl rfl rfl) ?_
                refine TO.sw rfl rfl rfl hb21 rfl rfl (StepS.cmpU (n := 1#32) rfl rfl rfl) ?_
                cases hj23
                refine TO.s rfl rfl rfl (StepS.pickF rfl hb21 rfl) ?_
                exact TO.up1 9 0 rfl rfl rfl rfl
            refine TO.code ?_
            refine TC.cond rfl (fun hc26 => ?_) (fun hc26 => ?_)
            · replace hj20 := cond_t hc26 hj20
              cases hj20
              refine TC.exit rfl fun a w e s => ?_
              exact ⟨e.sub (lk_of_allIn ⟨rfl, rfl, rfl, rfl, rfl, rfl, trivial⟩), s⟩
            · replace hj20 := cond_f hc26 hj20
              refine TC.skipk ?_
              refine TC.k ?_
              refine TC.region ?_
              refine TO.s rfl rfl rfl (StepS.move rfl) ?_
              refine TO.s rfl rfl rfl (StepS.move rfl) ?_
              refine TO.s rfl rfl rfl (StepS.move rfl) ?_
              obtain ⟨r27, hc28, hj20⟩ := bind_some hj20
              refine TO.callO kcallB_83_true rfl rfl rfl (fun _ st => C83 e1 hc28 st) ?_
              rintro v29 _ ⟨_, A30, us31, ea32, rfl, rfl⟩
              refine TO.s rfl rfl rfl (StepS.move rfl) ?_
              obtain ⟨r34, hc35, hj20⟩ := bind_some hj20
              refine TO.q rfl rfl rfl (StepQ.call kcallB_60_true rfl rfl (fun _ st => ih g0.tl e0_4.tl ea32 hc35 st)) ?_
              refine TO.code ?_
              refine TC.cond rfl (fun hc36 => ?_) (fun hc36 => ?_)
              · replace hj20 := cond_t hc36 hj20
                refine TC.region ?_
                refine TO.s rfl rfl rfl (StepS.move rfl) ?_
                refine TO.s rfl rfl rfl (StepS.ari rfl rfl rfl) ?_
                refine TO.s rfl rfl rfl (StepS.assign rfl) ?_
                cases hj20
                refine TO.nil fun a w e s => ?_
                exact ⟨e.sub (lk_of_allIn ⟨rfl, rfl, rfl, rfl, rfl, rfl, trivial⟩), s.mono fun _ => Sat.dropN 1⟩
              · replace hj20 := cond_f hc36 hj20
                refine TC.region ?_
                refine TO.s rfl rfl rfl (StepS.move rfl) ?_
                refine TO.s rfl rfl rfl (StepS.ari rfl rfl rfl) ?_
                refine TO.s rfl rfl rfl (StepS.assign rfl) ?_
                cases hj20
                refine TO.nil fun a w e s => ?_
                exact ⟨e.sub (lk_of_allIn ⟨rfl, rfl, rfl, rfl, rfl, rfl, trivial⟩), s.mono fun _ => Sat.dropN 1⟩
          · intro a w ⟨he, hs⟩
            refine TC.use ?_ he hs
            refine TC.region ?_
            refine TO.s rfl rfl rfl (StepS.ari rfl rfl rfl) ?_
            refine TO.s rfl rfl rfl (StepS.move rfl) ?_
            cases hb17
            refine TO.nil fun a w e s => ?_
            exact ⟨e.sub (lk_of_allIn ⟨rfl, rfl, rfl, rfl, rfl, rfl, trivial⟩), s⟩
        · replace hb17 := cond_f hc18 hb17
          cases hb17
          refine TC.exit rfl fun a w e s => ?_
          exact ⟨e.sub (lk_of_allIn ⟨rfl, trivial⟩), s⟩
      · exact fun a w e s => ⟨e.sub (lk_of_allIn ⟨rfl, rfl, rfl, rfl, rfl, rfl, trivial⟩), s⟩
      · rintro x14 rfl a w ⟨he, hs⟩
        dsimp only [Ctl.on] at hm
        refine TC.use ?_ he hs
        refine TC.k ?_
        refine TC.region ?_
        refine TO.s rfl rfl rfl (StepS.move rfl) ?_
        refine TO.s rfl rfl rfl (StepS.cmp rfl rfl rfl) ?_
        refine TO.s rfl rfl rfl (StepS.assign rfl) ?_
        refine TO.code ?_
        cases hm
        refine TC.ret fun a w e s => ?_
        refine FRet.mk1 (P := Try.prog) (fn := Try.f60) (t := 6) e rfl rfl ?_
        exact ⟨rfl, s.mono fun _ => Sat.dropN 0⟩
      · rintro r rfl
        exact fun a w h => h.elim
theorem C60_R {B : World} : ∀ (n : Nat) {L : List HP} {a0_0 : Int} {a0_1 : Int} {a0_2 : Bool} {a0_3 : BitVec 32} {a0_4 : List Bool} {a1 : List ((BitVec 32) × Int × Int × Int)} {a2 : Int} {b0_ : Nat} {h0_4 : Value} {h1 : Value} {k1_ : List Value} {r0 : Bool} (g0 : Ent L (Bx b0_ 91 [I a0_0, I a0_1, .bool a0_2, U a0_3, h0_4])) (e0_4 : Ent L (Rd 1 h0_4 (a0_4.map cB))) (e1 : Ent L (Lk 94 cL94 h1 k1_ a1)) (hm : F60_R n a0_0 a0_1 a0_2 a0_3 a0_4 a1 a2 = some r0) {w : World} (st : St B L w), Calls Try.prog 60 #[.pointer (some ⟨b0_, 0, none⟩), h1, I a2] w (fun e w' => (e = .returned (.bool r0) ∧ St B (L) w')) := by
  intro n
  induction n with
  | zero => intro L a0_0 a0_1 a0_2 a0_3 a0_4 a1 a2 b0_ h0_4 h1 k1_ r0 g0 e0_4 e1 hm w st; cases hm
  | succ n ih => intro L a0_0 a0_1 a0_2 a0_3 a0_4 a1 a2 b0_ h0_4 h1 k1_ r0 g0 e0_4 e1 hm w st; exact C60_B (F60_R n) (@ih) g0 e0_4 e1 hm st
theorem C60 {B : World} {L : List HP} {a0_0 : Int} {a0_1 : Int} {a0_2 : Bool} {a0_3 : BitVec 32} {a0_4 : List Bool} {a1 : List ((BitVec 32) × Int × Int × Int)} {a2 : Int} {b0_ : Nat} {h0_4 : Value} {h1 : Value} {k1_ : List Value} {r0 : Bool} (g0 : Ent L (Bx b0_ 91 [I a0_0, I a0_1, .bool a0_2, U a0_3, h0_4])) (e0_4 : Ent L (Rd 1 h0_4 (a0_4.map cB))) (e1 : Ent L (Lk 94 cL94 h1 k1_ a1)) (hm : F60 a0_0 a0_1 a0_2 a0_3 a0_4 a1 a2 = some r0) {w : World} (st : St B L w) : Calls Try.prog 60 #[.pointer (some ⟨b0_, 0, none⟩), h1, I a2] w (fun e w' => (e = .returned (.bool r0) ∧ St B (L) w')) := by
  obtain ⟨n, hn⟩ := fixO_spec hm
  exact C60_R n g0 e0_4 e1 hn st

set_option maxRecDepth 100000 in
theorem C36 {B : World} {L : List HP} {a0 : Int} {a1 : Int} {a2 : Bool} {a3 : BitVec 32} {a4 : List Bool} {h4 : Value} {r0 : List Bool} {r1 : Int} (e4 : Ent L (Rd 1 h4 (a4.map cB))) (hm : F36 a0 a1 a2 a3 a4 = some (r0, r1)) {w : World} (st : St B L w) : Calls Try.prog 36 #[I a0, I a1, .bool a2, U a3, h4] w (fun e w' => ∃ v M, e = .returned v ∧ (∃ (qv1 : Value), v = .tuple #[qv1, I r1] ∧ M = (OwnS 4 1 qv1 (r0.map cB) :: L)) ∧ St B M w') := by
  refine calls_of (N := 68) (L := L) (args := [I a0, I a1, .bool a2, U a3, h4]) Try.func36 rfl rfl rfl ?_ st
  dsimp only [F36] at hm
  refine TC.k ?_
  refine TC.region ?_
  refine TO.s rfl rfl rfl (StepS.assign rfl) ?_
  refine TO.s rfl rfl rfl (StepS.assign rfl) ?_
  refine TO.code ?_
  refine TC.k ?_
  refine TC.block ?_
  refine TC.k ?_
  refine TC.region ?_
  refine TO.s rfl rfl rfl (StepS.move rfl) ?_
  refine TO.s rfl rfl rfl (StepS.cmp rfl rfl rfl) ?_
  refine TO.s rfl rfl rfl (StepS.move rfl) ?_
  refine TO.mid1 3 22 (.bool ((decide (a0 < 1)) || (decide (a0 > 7)))) ?_ ?_
  · refine bcase ((decide (a0 < 1))) (fun hb2 => ?_) (fun hb2 => ?_)
    · refine TO.skip rfl rfl rfl (skipT hb2) rfl rfl ?_
      refine TO.skip rfl rfl rfl (skipT hb2) rfl rfl ?_
      refine TO.s rfl rfl rfl (StepS.pickT rfl hb2 rfl) ?_
      exact TO.up1 3 0 rfl rfl (by rw [hb2]; rfl) rfl
    · refine TO.sw rfl rfl rfl hb2 rfl rfl (StepS.move rfl) ?_
      refine TO.sw rfl rfl rfl hb2 rfl rfl (StepS.cmp rfl rfl rfl) ?_
      refine TO.s rfl rfl rfl (StepS.pickF rfl hb2 rfl) ?_
      exact TO.up1 3 0 rfl rfl (by rw [hb2]; rfl) rfl
  refine TO.s rfl rfl rfl (StepS.assign rfl) ?_
  refine TO.code ?_
  refine TC.cond rfl (fun hc3 => ?_) (fun hc3 => ?_)
  · replace hm := cond_t hc3 hm
    refine TC.k ?_
    refine TC.region ?_
    refine TO.s rfl rfl rfl (StepS.assign rfl) ?_
    refine TO.s rfl rfl rfl (StepS.assign rfl) ?_
    refine TO.code ?_
    cases hm
    refine TC.ret fun a w e s => ?_
    refine FRet.mk2 (P := Try.prog) (fn := Try.f36) (t := 10) (u := 11) e rfl rfl rfl ?_
    refine ⟨_, _, rfl, ⟨(.slice none 0 0), rfl, rfl⟩, ?_⟩
    refine s.mono fun _ s => ?_
    replace s := Sat.nilS (e := 4) (sz := 1) (f := cB) s
    exact s
  · replace hm := cond_f hc3 hm
    refine TC.k ?_
    refine TC.region ?_
    refine TO.s rfl rfl rfl (StepS.move rfl) ?_
    refine TO.s rfl rfl rfl (StepS.cmp rfl rfl rfl) ?_
    refine TO.s rfl rfl rfl (StepS.move rfl) ?_
    refine TO.mid1 3 29 (.bool ((decide (a1 < 0)) || (decide (a1 > 2)))) ?_ ?_
    · refine bcase ((decide (a1 < 0))) (fun hb4 => ?_) (fun hb4 => ?_)
      · refine TO.skip rfl rfl rfl (skipT hb4) rfl rfl ?_
        refine TO.skip rfl rfl rfl (skipT hb4) rfl rfl ?_
        refine TO.s rfl rfl rfl (StepS.pickT rfl hb4 rfl) ?_
        exact TO.up1 3 0 rfl rfl (by rw [hb4]; rfl) rfl
      · refine TO.sw rfl rfl rfl hb4 rfl rfl (StepS.move rfl) ?_
        refine TO.sw rfl rfl rfl hb4 rfl rfl (StepS.cmp rfl rfl rfl) ?_
        refine TO.s rfl rfl rfl (StepS.pickF rfl hb4 rfl) ?_
        exact TO.up1 3 0 rfl rfl (by rw [hb4]; rfl) rfl
    refine TO.s rfl rfl rfl (StepS.move rfl) ?_
    obtain ⟨b6, hj7, hm⟩ := bind_some hm
    refine TO.mid1 5 35 (.bool b6) ?_ ?_
    · refine bcase (((decide (a1 < 0)) || (decide (a1 > 2)))) (fun hb5 => ?_) (fun hb5 => ?_)
      · replace hj7 := cond_t hb5 hj7
        cases hj7
        refine TO.skip rfl rfl rfl (skipT hb5) rfl rfl ?_
        refine TO.skip rfl rfl rfl (skipT hb5) rfl rfl ?_
        refine TO.skip rfl rfl rfl (skipT hb5) rfl rfl ?_
        refine TO.skip rfl rfl rfl (skipT hb5) rfl rfl ?_
        refine TO.s rfl rfl rfl (StepS.pickT rfl hb5 rfl) ?_
        exact TO.up1 5 0 rfl rfl rfl rfl
      · replace hj7 := cond_f hb5 hj7
        refine TO.sw rfl rfl rfl hb5 rfl rfl (StepS.move rfl) ?_
        refine TO.sw rfl rfl rfl hb5 rfl rfl (StepS.move rfl) ?_
        obtain ⟨k8, hk9, hj7⟩ := bind_some hj7
        refine TO.sw rfl rfl rfl hb5 rfl rfl (StepS.shrk rfl rfl hk9) ?_
        refine TO.sw rfl rfl rfl hb5 rfl rfl (StepS.cmpU (n := 0#32) rfl rfl rfl) ?_
        cases hj7
        refine TO.s rfl rfl rfl (StepS.pickF rfl hb5 rfl) ?_
        exact TO.up1 5 0 rfl rfl rfl rfl
    refine TO.s rfl rfl rfl (StepS.assign rfl) ?_
    refine TO.code ?_
    refine TC.cond rfl (fun hc10 => ?_) (fun hc10 => ?_)
    · replace hm := cond_t hc10 hm
      refine TC.k ?_
      refine TC.region ?_
      refine TO.s rfl rfl rfl (StepS.assign rfl) ?_
      refine TO.s rfl rfl rfl (StepS.assign rfl) ?_
      refine TO.code ?_
      cases hm
      refine TC.ret fun a w e s => ?_
      refine FRet.mk2 (P := Try.prog) (fn := Try.f36) (t := 10) (u := 11) e rfl rfl rfl ?_
      refine ⟨_, _, rfl, ⟨(.slice none 0 0), rfl, rfl⟩, ?_⟩
      refine s.mono fun _ s => ?_
      replace s := Sat.nilS (e := 4) (sz := 1) (f := cB) s
      exact s
    · replace hm := cond_f hc10 hm
      refine TC.k ?_
      refine TC.region ?_
      refine TO.s rfl rfl rfl (StepS.move rfl) ?_
      refine TO.s rfl rfl rfl (StepS.cmpU (n := 0#32) rfl rfl rfl) ?_
      refine TO.s rfl rfl rfl (StepS.move rfl) ?_
      refine TO.mid1 4 43 (.bool ((a3 != (0#32)) && ((a4.length : Int) == 0))) ?_ ?_
      · refine bcase ((a3 != (0#32))) (fun hb11 => ?_) (fun hb11 => ?_)
        · refine TO.sw rfl rfl rfl hb11 rfl rfl (StepS.move rfl) ?_
          refine TO.sw rfl rfl rfl hb11 rfl rfl (StepS.lenm rfl e4 ksliceB_53_4_1_true rfl) ?_
          refine TO.sw rfl rfl rfl hb11 rfl rfl (StepS.cmp rfl rfl rfl) ?_
          refine TO.s rfl rfl rfl (StepS.pickT rfl hb11 rfl) ?_
          exact TO.up1 4 0 rfl rfl (by rw [hb11]; rfl) rfl
        · refine TO.skip rfl rfl rfl (skipF hb11) rfl rfl ?_
          refine TO.skip rfl rfl rfl (skipF hb11) rfl rfl ?_
          refine TO.skip rfl rfl rfl (skipF hb11) rfl rfl ?_
          refine TO.s rfl rfl rfl (StepS.pickF rfl hb11 rfl) ?_
          exact TO.up1 4 0 rfl rfl (by rw [hb11]; rfl) rfl
      refine TO.s rfl rfl rfl (StepS.assign rfl) ?_
      refine TO.code ?_
      refine TC.cond rfl (fun hc12 => ?_) (fun hc12 => ?_)
      · replace hm := cond_t hc12 hm
        refine TC.k ?_
        refine TC.region ?_
        refine TO.s rfl rfl rfl (StepS.assign rfl) ?_
        refine TO.s rfl rfl rfl (StepS.assign rfl) ?_
        refine TO.code ?_
        cases hm
        refine TC.ret fun a w e s => ?_
        refine FRet.mk2 (P := Try.prog) (fn := Try.f36) (t := 10) (u := 11) e rfl rfl rfl ?_
        refine ⟨_, _, rfl, ⟨(.slice none 0 0), rfl, rfl⟩, ?_⟩
        refine s.mono fun _ s => ?_
        replace s := Sat.nilS (e := 4) (sz := 1) (f := cB) s
        exact s
      · replace hm := cond_f hc12 hm
        refine TC.skipk ?_
        refine TC.k ?_
        refine TC.region ?_
        refine TO.s rfl rfl rfl (StepS.move rfl) ?_
        refine TO.s rfl rfl rfl (StepS.move rfl) ?_
        refine TO.s rfl rfl rfl (StepS.move rfl) ?_
        refine TO.s rfl rfl rfl (StepS.move rfl) ?_
        refine TO.s rfl rfl rfl (StepS.move rfl) ?_
        refine TO.pure (fun _ s => Rd.one e4 s) fun oc13 => ?_
        refine TO.s rfl rfl rfl (StepS.buildS (us := [(0, I a0), (1, I a1), (2, .bool a2), (3, U a3), (4, .agg #[h4])]) (cs := [I a0, I a1, .bool a2, U a3, h4]) rfl (by simp only [List.map_cons, List.map_nil, oc13.2]; rfl) (by kernel_rfl)) ?_
        refine TO.box (cs := [I a0, I a1, .bool a2, U a3, h4]) rfl rfl rfl fun b14 => ?_
        refine TO.s rfl rfl rfl (StepS.assign rfl) ?_
        refine TO.code ?_
        refine TC.k ?_
        refine TC.region ?_
        refine TO.s rfl rfl rfl (StepS.build (cs := [U (1#32), I 0, I 1, I 0, .pointer none]) rfl (by kernel_rfl)) ?_
        refine TO.box (cs := [U (1#32), I 0, I 1, I 0, .pointer none]) rfl rfl rfl fun b15 => ?_
        refine TO.s rfl rfl rfl (StepS.assign rfl) ?_
        refine TO.code ?_
        refine TC.k ?_
        refine TC.region ?_
        refine TO.s rfl rfl rfl (StepS.move rfl) ?_
        refine TO.litS (f := cB) ([a2] : List Bool) kelemB_53_4_1_1_true kinfo_4_bind_zero_some_bool_false rfl rfl (fun _ => rfl) rfl rfl (by kernel_rfl) rfl fun v16 => ?_
        refine TO.s rfl rfl rfl (StepS.assign rfl) ?_
        refine TO.code ?_
        refine TC.k ?_
        refine TC.k ?_
        refine TC.region ?_
        refine TO.s rfl rfl rfl (StepS.assign rfl) ?_
        refine TO.code ?_
        obtain ⟨o26, hw27, hm⟩ := bind_some hm
        refine TC.loop hw27 (fun (y18, x20) => fun a w => ∃ v19 : Value, Mid 68 B [(0, I a0), (12, .pointer (some ⟨b14, 0, none⟩)), (13, .pointer (some ⟨b15, 0, none⟩)), (14, v19), (15, I x20)] (OwnS 4 1 v19 (y18.map cB) :: Bx b15 94 [U (1#32), I 0, I 1, I 0, .pointer none] :: Bx b14 91 [I a0, I a1, .bool a2, U a3, h4] :: L) a w) (fun y24 => fun a w => ∃ v25 : Value, Mid 68 B [(14, v25)] (OwnS 4 1 v25 (y24.map cB) :: Bx b15 94 [U (1#32), I 0, I 1, I 0, .pointer none] :: Bx b14 91 [I a0, I a1, .bool a2, U a3, h4] :: L) a w) (fun (_ : Unit) _ _ => False) ?_ ?_ ?_ ?_
        · rintro ⟨y18, x20⟩ o26r hb28 a w ⟨v19, he, hs⟩
          dsimp only [F36_L0] at hb28
          refine TC.use ?_ he hs
          refine TC.k ?_
          refine TC.k ?_
          refine TC.region ?_
          refine TO.s rfl rfl rfl (StepS.move rfl) ?_
          refine TO.s rfl rfl rfl (StepS.move rfl) ?_
          refine TO.s rfl rfl rfl (StepS.cmp rfl rfl rfl) ?_
          refine TO.code ?_
          refine TC.cond rfl (fun hc29 => ?_) (fun hc29 => ?_)
          · replace hb28 := cond_t hc29 hb28
            refine TC.skipk ?_
            refine TC.k ?_
            refine TC.block ?_
            refine TC.region ?_
            refine TO.s rfl rfl rfl (StepS.move rfl) ?_
            refine TO.s rfl rfl rfl (StepS.move rfl) ?_
            refine TO.s rfl rfl rfl (StepS.move rfl) ?_
            refine TO.s rfl rfl rfl (StepS.move rfl) ?_
            obtain ⟨r30, hc31, hb28⟩ := bind_some hb28
            refine TO.q rfl rfl rfl (StepQ.call kcallB_60_true rfl rfl (fun _ st => C60 (Ent.at 2 rfl) e4.tl.tl.tl (Lk.consE (cf := cL94) (x := (1#32, 0, 1, 0)) (Ent.at 1 rfl) rfl (Lk.nilE (us := []))) hc31 st)) ?_
            refine TO.litS (f := cB) ([r30] : List Bool) kelemB_53_4_1_1_true kinfo_4_bind_zero_some_bool_false rfl rfl (fun _ => rfl) rfl rfl (by kernel_rfl) rfl fun v32 => ?_
            obtain ⟨y34, hk35, hb28⟩ := bind_some hb28
            refine TO.app (k := 1) (f := cB) kelemB_53_4_1_1_true (by decide) rfl rfl rfl (OwnS.rd (Ent.at 0 rfl)) hk35 (fun x c hc => by simp [Value.oneCell'] at hc ⊢; first | (obtain rfl := hc; rfl) | (rcases hc with rfl <;> rfl)) rfl rfl fun v36 => ?_
            refine TO.s rfl rfl rfl (StepS.assign rfl) ?_
            refine TO.code ?_
            refine TC.region ?_
            refine TO.s rfl rfl rfl (StepS.move rfl) ?_
            refine TO.s rfl rfl rfl (StepS.ari rfl rfl rfl) ?_
            refine TO.s rfl rfl rfl (StepS.assign rfl) ?_
            cases hb28
            refine TO.nil fun a w e s => ?_
            exact ⟨v36, e.sub (lk_of_allIn ⟨rfl, rfl, rfl, rfl, rfl, trivial⟩), s.mono fun _ => Sat.dropN 1⟩
          · replace hb28 := cond_f hc29 hb28
            cases hb28
            refine TC.exit rfl fun a w e s => ?_
            exact ⟨v19, e.sub (lk_of_allIn ⟨rfl, trivial⟩), s⟩
        · exact fun a w e s => ⟨v16, e.sub (lk_of_allIn ⟨rfl, rfl, rfl, rfl, rfl, trivial⟩), s⟩
        · rintro y24 rfl a w ⟨v25, he, hs⟩
          dsimp only [Ctl.on] at hm
          refine TC.use ?_ he hs
          refine TC.k ?_
          refine TC.region ?_
          refine TO.s rfl rfl rfl (StepS.move rfl) ?_
          refine TO.s rfl rfl rfl (StepS.assign rfl) ?_
          refine TO.s rfl rfl rfl (StepS.assign rfl) ?_
          refine TO.code ?_
          cases hm
          refine TC.ret fun a w e s => ?_
          refine FRet.mk2 (P := Try.prog) (fn := Try.f36) (t := 10) (u := 11) e rfl rfl rfl ?_
          refine ⟨_, _, rfl, ⟨(v25), rfl, rfl⟩, ?_⟩
          refine s.mono fun _ s => ?_
          replace s := Sat.front 0 rfl s
          replace s := Sat.erase 1 s
          replace s := Sat.erase 1 s
          exact s
        · rintro r rfl
          exact fun a w h => h.elim

set_option maxRecDepth 100000 in
theorem C23 {B : World} {L : List HP} {a0 : BitVec 32} {a1 : Int} {r0 : Bool} (hm : F23 a0 a1 = some r0) {w : World} (st : St B L w) : Calls Try.prog 23 #[U a0, I a1] w (fun e w' => (e = .returned (.bool r0) ∧ St B (L) w')) := by
  refine calls_of (N := 19) (L := L) (args := [U a0, I a1]) Try.func23 rfl rfl rfl ?_ st
  dsimp only [F23] at hm
  refine TC.k ?_
  refine TC.region ?_
  refine TO.s rfl rfl rfl (StepS.assign rfl) ?_
  refine TO.code ?_
  refine TC.k ?_
  refine TC.region ?_
  refine TO.s rfl rfl rfl (StepS.move rfl) ?_
  refine TO.s rfl rfl rfl (StepS.cmp rfl rfl rfl) ?_
  refine TO.s rfl rfl rfl (StepS.move rfl) ?_
  refine TO.mid1 3 10 (.bool ((decide (a1 ≥ 0)) && (decide (a1 < 32)))) ?_ ?_
  · refine bcase ((decide (a1 ≥ 0))) (fun hb1 => ?_) (fun hb1 => ?_)
    · refine TO.sw rfl rfl rfl hb1 rfl rfl (StepS.move rfl) ?_
      refine TO.sw rfl rfl rfl hb1 rfl rfl (StepS.cmp rfl rfl rfl) ?_
      refine TO.s rfl rfl rfl (StepS.pickT rfl hb1 rfl) ?_
      exact TO.up1 3 0 rfl rfl (by rw [hb1]; rfl) rfl
    · refine TO.skip rfl rfl rfl (skipF hb1) rfl rfl ?_
      refine TO.skip rfl rfl rfl (skipF hb1) rfl rfl ?_
      refine TO.s rfl rfl rfl (StepS.pickF rfl hb1 rfl) ?_
      exact TO.up1 3 0 rfl rfl (by rw [hb1]; rfl) rfl
  refine TO.s rfl rfl rfl (StepS.move rfl) ?_
  refine TO.mid1 7 18 (.bool (((decide (a1 ≥ 0)) && (decide (a1 < 32))) && ((a0 &&& ((1#32) <<< (u64 a1).toNat)) != (0#32)))) ?_ ?_
  · refine bcase (((decide (a1 ≥ 0)) && (decide (a1 < 32)))) (fun hb2 => ?_) (fun hb2 => ?_)
    · refine TO.sw rfl rfl rfl hb2 rfl rfl (StepS.move rfl) ?_
      refine TO.sw rfl rfl rfl hb2 rfl rfl (StepS.move rfl) ?_
      refine TO.sw rfl rfl rfl hb2 rfl rfl (StepS.cvIV kintB_3_i64_true kintB_42_u64_true rfl) ?_
      refine TO.sw rfl rfl rfl hb2 rfl rfl (StepS.shl (m := 1#32) rfl rfl (u64_nonneg _)) ?_
      refine TO.sw rfl rfl rfl hb2 rfl rfl (StepS.bitU rfl rfl rfl) ?_
      refine TO.sw rfl rfl rfl hb2 rfl rfl (StepS.cmpU (n := 0#32) rfl rfl rfl) ?_
      refine TO.s rfl rfl rfl (StepS.pickT rfl hb2 rfl) ?_
      exact TO.up1 7 0 rfl rfl (by rw [hb2]; rfl) rfl
    · refine TO.skip rfl rfl rfl (skipF hb2) rfl rfl ?_
      refine TO.skip rfl rfl rfl (skipF hb2) rfl rfl ?_
      refine TO.skip rfl rfl rfl (skipF hb2) rfl rfl ?_
      refine TO.skip rfl rfl rfl (skipF hb2) rfl rfl ?_
      refine TO.skip rfl rfl rfl (skipF hb2) rfl rfl ?_
      refine TO.skip rfl rfl rfl (skipF hb2) rfl rfl ?_
      refine TO.s rfl rfl rfl (StepS.pickF rfl hb2 rfl) ?_
      exact TO.up1 7 0 rfl rfl (by rw [hb2]; rfl) rfl
  refine TO.s rfl rfl rfl (StepS.assign rfl) ?_
  refine TO.code ?_
  cases hm
  refine TC.ret fun a w e s => ?_
  refine FRet.mk1 (P := Try.prog) (fn := Try.f23) (t := 4) e rfl rfl ?_
  exact ⟨rfl, s.mono fun _ => Sat.dropN 0⟩

set_option maxRecDepth 100000 in
theorem C61_B {B : World} (rec61 : Bool → (BitVec 32) → (List Bool) → (List Int) → Int → Option (Bool)) (ih : ∀ {L : List HP} {a0 : Bool} {a1 : BitVec 32} {a2 : List Bool} {a3 : List Int} {a4 : Int} {h2 : Value} {h3 : Value} {r0 : Bool} (e2 : Ent L (Rd 1 h2 (a2.map cB))) (e3 : Ent L (Rd 1 h3 (a3.map cI))) (hm : rec61 a0 a1 a2 a3 a4 = some r0) {w : World} (st : St B L w), Calls Try.prog 61 #[.bool a0, U a1, h2, h3, I a4] w (fun e w' => (e = .returned (.bool r0) ∧ St B (L) w'))) {L : List HP} {a0 : Bool} {a1 : BitVec 32} {a2 : List Bool} {a3 : List Int} {a4 : Int} {h2 : Value} {h3 : Value} {r0 : Bool} (e2 : Ent L (Rd 1 h2 (a2.map cB))) (e3 : Ent L (Rd 1 h3 (a3.map cI))) (hm : F61_B rec61 a0 a1 a2 a3 a4 = some r0) {w : World} (st : St B L w) : Calls Try.prog 61 #[.bool a0, U a1, h2, h3, I a4] w (fun e w' => (e = .returned (.bool r0) ∧ St B (L) w')) := by
  refine calls_of (N := 59) (L := L) (args := [.bool a0, U a1, h2, h3, I a4]) Try.func61 rfl rfl rfl ?_ st
  dsimp only [F61_B] at hm
  refine TC.k ?_
  refine TC.region ?_
  refine TO.s rfl rfl rfl (StepS.assign rfl) ?_
  refine TO.code ?_
  refine TC.k ?_
  refine TC.region ?_
  refine TO.s rfl rfl rfl (StepS.move rfl) ?_
  refine TO.s rfl rfl rfl (StepS.move rfl) ?_
  refine TO.s rfl rfl rfl (StepS.lenm rfl e3 ksliceB_22_3_1_true rfl) ?_
  refine TO.s rfl rfl rfl (StepS.ari rfl rfl rfl) ?_
  obtain ⟨x1, hx2, hm⟩ := bind_some hm
  refine TO.s rfl rfl rfl (StepS.idx rfl rfl e3 ksliceB_22_3_1_true (idx_spec hx2).1 (idxm_lt hx2)) ?_
  refine TO.s rfl rfl rfl (StepS.ld0 rfl e3 kscalB_3_true rfl (idxm hx2) rfl) ?_
  refine TO.s rfl rfl rfl (StepS.assign rfl) ?_
  refine TO.code ?_
  refine TC.k ?_
  refine TC.k ?_
  refine TC.region ?_
  refine TO.s rfl rfl rfl (StepS.move rfl) ?_
  refine TO.s rfl rfl rfl (StepS.move rfl) ?_
  obtain ⟨r3, hc4, hm⟩ := bind_some hm
  refine TO.q rfl rfl rfl (StepQ.call kcallB_23_true rfl rfl (fun _ st => C23  hc4 st)) ?_
  refine TO.code ?_
  refine TC.cond rfl (fun hc5 => ?_) (fun hc5 => ?_)
  · replace hm := cond_t hc5 hm
    refine TC.k ?_
    refine TC.region ?_
    refine TO.s rfl rfl rfl (StepS.assign rfl) ?_
    refine TO.code ?_
    refine TC.k ?_
    refine TC.k ?_
    refine TC.region ?_
    refine TO.s rfl rfl rfl (StepS.move rfl) ?_
    refine TO.s rfl rfl rfl (StepS.lenm rfl e3 ksliceB_22_3_1_true rfl) ?_
    refine TO.s rfl rfl rfl (StepS.move rfl) ?_
    refine TO.code ?_
    obtain ⟨o11, hw12, hm⟩ := bind_some hm
    refine TC.loop hw12 (fun (x6, x7) => fun a w => Mid 59 B [(2, h2), (4, I a4), (12, I x6), (24, h3), (25, I (a3.length : Int)), (26, I x7)] (L) a w) (fun x10 => fun a w => Mid 59 B [(2, h2), (4, I a4), (12, I x10)] (L) a w) (fun (_ : Unit) _ _ => False) ?_ ?_ ?_ ?_
    · rintro ⟨x6, x7⟩ o11r hb13 a w ⟨he, hs⟩
      dsimp only [F61_L0] at hb13
      refine TC.use ?_ he hs
      refine TC.k ?_
      refine TC.region ?_
      refine TO.s rfl rfl rfl (StepS.cmp rfl rfl rfl) ?_
      refine TO.code ?_
      refine TC.k ?_
      refine TC.cond rfl (fun hc14 => ?_) (fun hc14 => ?_)
      · replace hb13 := cond_t hc14 hb13
        refine TC.skipk ?_
        refine TC.k ?_
        refine TC.block ?_
        refine TC.k ?_
        refine TC.region ?_
        obtain ⟨x15, hx16, hb13⟩ := bind_some hb13
        refine TO.s rfl rfl rfl (StepS.idx rfl rfl e3 ksliceB_22_3_1_true (idx_spec hx16).1 (idxm_lt hx16)) ?_
        refine TO.s rfl rfl rfl (StepS.ld0 rfl e3 kscalB_3_true rfl (idxm hx16) rfl) ?_
        refine TO.s rfl rfl rfl (StepS.assign rfl) ?_
        refine TO.code ?_
        refine TC.region ?_
        refine TO.s rfl rfl rfl (StepS.move rfl) ?_
        refine TO.s rfl rfl rfl (StepS.ari rfl rfl rfl) ?_
        refine TO.s rfl rfl rfl (StepS.move rfl) ?_
        refine TO.s rfl rfl rfl (StepS.ari rfl rfl rfl) ?_
        refine TO.s rfl rfl rfl (StepS.assign rfl) ?_
        refine TO.code ?_
        refine TC.region ?_
        refine TO.s rfl rfl rfl (StepS.ari rfl rfl rfl) ?_
        refine TO.s rfl rfl rfl (StepS.move rfl) ?_
        cases hb13
        refine TO.nil fun a w e s => ?_
        exact ⟨e.sub (lk_of_allIn ⟨rfl, rfl, rfl, rfl, rfl, rfl, trivial⟩), s⟩
      · replace hb13 := cond_f hc14 hb13
        cases hb13
        refine TC.exit rfl fun a w e s => ?_
        exact ⟨e.sub (lk_of_allIn ⟨rfl, rfl, rfl, trivial⟩), s⟩
    · exact fun a w e s => ⟨e.sub (lk_of_allIn ⟨rfl, rfl, rfl, rfl, rfl, rfl, trivial⟩), s⟩
    · rintro x10 rfl a w ⟨he, hs⟩
      dsimp only [Ctl.on] at hm
      refine TC.use ?_ he hs
      refine TC.k ?_
      refine TC.region ?_
      refine TO.s rfl rfl rfl (StepS.move rfl) ?_
      refine TO.s rfl rfl rfl (StepS.move rfl) ?_
      refine TO.s rfl rfl rfl (StepS.ari rfl rfl rfl) ?_
      refine TO.s rfl rfl rfl (StepS.move rfl) ?_
      refine TO.s rfl rfl rfl (StepS.ari rfl rfl rfl) ?_
      refine TO.s rfl rfl rfl (StepS.move rfl) ?_
      refine TO.s rfl rfl rfl (StepS.lenm rfl e2 ksliceB_53_4_1_true rfl) ?_
      obtain ⟨u18, hd17, hm⟩ := bind_some hm
      refine TO.s rfl rfl rfl (StepS.rem rfl rfl (nz_spec hd17)) ?_
      obtain ⟨x19, hx20, hm⟩ := bind_some hm
      refine TO.s rfl rfl rfl (StepS.idx rfl rfl e2 ksliceB_53_4_1_true (idx_spec hx20).1 (idxm_lt hx20)) ?_
      refine TO.s rfl rfl rfl (StepS.ld0 rfl e2 kscalB_4_true rfl (idxm hx20) rfl) ?_
      refine TO.s rfl rfl rfl (StepS.assign rfl) ?_
      refine TO.code ?_
      cases hm
      refine TC.ret fun a w e s => ?_
      refine FRet.mk1 (P := Try.prog) (fn := Try.f61) (t := 10) e rfl rfl ?_
      exact ⟨rfl, s.mono fun _ => Sat.dropN 0⟩
    · rintro r rfl
      exact fun a w h => h.elim
  · replace hm := cond_f hc5 hm
    refine TC.skipk ?_
    refine TC.k ?_
    refine TC.k ?_
    refine TC.region ?_
    refine TO.s rfl rfl rfl (StepS.move rfl) ?_
    refine TO.s rfl rfl rfl (StepS.lenm rfl e3 ksliceB_22_3_1_true rfl) ?_
    refine TO.s rfl rfl rfl (StepS.cmp rfl rfl rfl) ?_
    refine TO.code ?_
    refine TC.cond rfl (fun hc21 => ?_) (fun hc21 => ?_)
    · replace hm := cond_t hc21 hm
      refine TC.k ?_
      refine TC.region ?_
      refine TO.s rfl rfl rfl (StepS.move rfl) ?_
      refine TO.s rfl rfl rfl (StepS.assign rfl) ?_
      refine TO.code ?_
      cases hm
      refine TC.ret fun a w e s => ?_
      refine FRet.mk1 (P := Try.prog) (fn := Try.f61) (t := 10) e rfl rfl ?_
      exact ⟨rfl, s.mono fun _ => Sat.dropN 0⟩
    · replace hm := cond_f hc21 hm
      refine TC.skipk ?_
      refine TC.k ?_
      refine TC.region ?_
      refine TO.s rfl rfl rfl (StepS.move rfl) ?_
      refine TO.s rfl rfl rfl (StepS.move rfl) ?_
      refine TO.s rfl rfl rfl (StepS.move rfl) ?_
      refine TO.s rfl rfl rfl (StepS.move rfl) ?_
      refine TO.s rfl rfl rfl (StepS.move rfl) ?_
      refine TO.s rfl rfl rfl (StepS.lenm rfl e3 ksliceB_22_3_1_true rfl) ?_
      refine TO.s rfl rfl rfl (StepS.ari rfl rfl rfl) ?_
      obtain ⟨y22, hs23, hm⟩ := bind_some hm
      obtain ⟨hs23a, hs23b, hs23c, _⟩ := slI_spec hs23
      refine TO.s rfl rfl rfl (StepS.slc rfl e3 ksliceB_22_3_1_true rfl rfl hs23a hs23b (by simpa using hs23c)) ?_
      refine TO.s rfl rfl rfl (StepS.move rfl) ?_
      obtain ⟨r25, hc26, hm⟩ := bind_some hm
      refine TO.q rfl rfl rfl (StepQ.call kcallB_61_true rfl rfl (fun _ st => ih e2 (Ent.sub e3 hs23) hc26 st)) ?_
      refine TO.s rfl rfl rfl (StepS.assign rfl) ?_
      refine TO.code ?_
      cases hm
      refine TC.ret fun a w e s => ?_
      refine FRet.mk1 (P := Try.prog) (fn := Try.f61) (t := 10) e rfl rfl ?_
      exact ⟨rfl, s.mono fun _ => Sat.dropN 0⟩
theorem C61_R {B : World} : ∀ (n : Nat) {L : List HP} {a0 : Bool} {a1 : BitVec 32} {a2 : List Bool} {a3 : List Int} {a4 : Int} {h2 : Value} {h3 : Value} {r0 : Bool} (e2 : Ent L (Rd 1 h2 (a2.map cB))) (e3 : Ent L (Rd 1 h3 (a3.map cI))) (hm : F61_R n a0 a1 a2 a3 a4 = some r0) {w : World} (st : St B L w), Calls Try.prog 61 #[.bool a0, U a1, h2, h3, I a4] w (fun e w' => (e = .returned (.bool r0) ∧ St B (L) w')) := by
  intro n
  induction n with
  | zero => intro L a0 a1 a2 a3 a4 h2 h3 r0 e2 e3 hm w st; cases hm
  | succ n ih => intro L a0 a1 a2 a3 a4 h2 h3 r0 e2 e3 hm w st; exact C61_B (F61_R n) (@ih) e2 e3 hm st
theorem C61 {B : World} {L : List HP} {a0 : Bool} {a1 : BitVec 32} {a2 : List Bool} {a3 : List Int} {a4 : Int} {h2 : Value} {h3 : Value} {r0 : Bool} (e2 : Ent L (Rd 1 h2 (a2.map cB))) (e3 : Ent L (Rd 1 h3 (a3.map cI))) (hm : F61 a0 a1 a2 a3 a4 = some r0) {w : World} (st : St B L w) : Calls Try.prog 61 #[.bool a0, U a1, h2, h3, I a4] w (fun e w' => (e = .returned (.bool r0) ∧ St B (L) w')) := by
  obtain ⟨n, hn⟩ := fixO_spec hm
  exact C61_R n e2 e3 hn st

set_option maxRecDepth 100000 in
theorem C62 {B : World} {L : List HP} {a0 : List Int} {a1 : Int} {h0 : Value} {r0 : Bool} (e0 : Ent L (Rd 1 h0 (a0.map cI))) (hm : F62 a0 a1 = some r0) {w : World} (st : St B L w) : Calls Try.prog 62 #[h0, I a1] w (fun e w' => (e = .returned (.bool r0) ∧ St B (L) w')) := by
  refine calls_of (N := 17) (L := L) (args := [h0, I a1]) Try.func62 rfl rfl rfl ?_ st
  dsimp only [F62] at hm
  refine TC.k ?_
  refine TC.region ?_
  refine TO.s rfl rfl rfl (StepS.assign rfl) ?_
  refine TO.code ?_
  refine TC.k ?_
  refine TC.k ?_
  refine TC.region ?_
  refine TO.s rfl rfl rfl (StepS.move rfl) ?_
  refine TO.s rfl rfl rfl (StepS.lenm rfl e0 ksliceB_22_3_1_true rfl) ?_
  refine TO.s rfl rfl rfl (StepS.move rfl) ?_
  refine TO.code ?_
  obtain ⟨o3, hw4, hm⟩ := bind_some hm
  refine TC.loop hw4 (fun x1 => fun a w => Mid 17 B [(1, I a1), (7, h0), (8, I (a0.length : Int)), (9, I x1)] (L) a w) (fun _ => fun a w => Mid 17 B [] (L) a w) (fun r0 => FRet Try.prog Try.f62 (fun e w' => (e = .returned (.bool r0) ∧ St B (L) w'))) ?_ ?_ ?_ ?_
  · rintro x1 o3r hb5 a w ⟨he, hs⟩
    dsimp only [F62_L0] at hb5
    refine TC.use ?_ he hs
    refine TC.k ?_
    refine TC.region ?_
    refine TO.s rfl rfl rfl (StepS.cmp rfl rfl rfl) ?_
    refine TO.code ?_
    refine TC.k ?_
    refine TC.cond rfl (fun hc6 => ?_) (fun hc6 => ?_)
    · replace hb5 := cond_t hc6 hb5
      refine TC.skipk ?_
      refine TC.k ?_
      refine TC.block ?_
      refine TC.k ?_
      refine TC.region ?_
      obtain ⟨x7, hx8, hb5⟩ := bind_some hb5
      refine TO.s rfl rfl rfl (StepS.idx rfl rfl e0 ksliceB_22_3_1_true (idx_spec hx8).1 (idxm_lt hx8)) ?_
      refine TO.s rfl rfl rfl (StepS.ld0 rfl e0 kscalB_3_true rfl (idxm hx8) rfl) ?_
      refine TO.s rfl rfl rfl (StepS.assign rfl) ?_
      refine TO.code ?_
      refine TC.k ?_
      refine TC.region ?_
      refine TO.s rfl rfl rfl (StepS.move rfl) ?_
      refine TO.s rfl rfl rfl (StepS.move rfl) ?_
      refine TO.s rfl rfl rfl (StepS.cmp rfl rfl rfl) ?_
      refine TO.code ?_
      refine TC.cond rfl (fun hc9 => ?_) (fun hc9 => ?_)
      · replace hb5 := cond_t hc9 hb5
        refine TC.k ?_
        refine TC.region ?_
        refine TO.s rfl rfl rfl (StepS.assign rfl) ?_
        refine TO.code ?_
        cases hb5
        refine TC.ret fun a w e s => ?_
        refine FRet.mk1 (P := Try.prog) (fn := Try.f62) (t := 4) e rfl rfl ?_
        exact ⟨rfl, s.mono fun _ => Sat.dropN 0⟩
      · replace hb5 := cond_f hc9 hb5
        refine TC.skipk ?_
        refine TC.region ?_
        refine TO.s rfl rfl rfl (StepS.ari rfl rfl rfl) ?_
        refine TO.s rfl rfl rfl (StepS.move rfl) ?_
        cases hb5
        refine TO.nil fun a w e s => ?_
        exact ⟨e.sub (lk_of_allIn ⟨rfl, rfl, rfl, rfl, trivial⟩), s⟩
    · replace hb5 := cond_f hc6 hb5
      cases hb5
      refine TC.exit rfl fun a w e s => ?_
      exact ⟨e.sub (lk_of_allIn trivial), s⟩
  · exact fun a w e s => ⟨e.sub (lk_of_allIn ⟨rfl, rfl, rfl, rfl, trivial⟩), s⟩
  · rintro _ rfl a w ⟨he, hs⟩
    dsimp only [Ctl.on] at hm
    refine TC.use ?_ he hs
    refine TC.k ?_
    refine TC.region ?_
    refine TO.s rfl rfl rfl (StepS.assign rfl) ?_
    refine TO.code ?_
    cases hm
    refine TC.ret fun a w e s => ?_
    refine FRet.mk1 (P := Try.prog) (fn := Try.f62) (t := 4) e rfl rfl ?_
    exact ⟨rfl, s.mono fun _ => Sat.dropN 0⟩
  · rintro r rfl
    cases hm
    exact fun a w h => h

set_option maxRecDepth 100000 in
theorem C37_B {B : World} (rec37 : Int → Int → Bool → (BitVec 32) → (List Bool) → (List Int) → Int → Option (Bool)) (ih : ∀ {L : List HP} {a0 : Int} {a1 : Int} {a2 : Bool} {a3 : BitVec 32} {a4 : List Bool} {a5 : List Int} {a6 : Int} {h4 : Value} {h5 : Value} {r0 : Bool} (e4 : Ent L (Rd 1 h4 (a4.map cB))) (e5 : Ent L (Rd 1 h5 (a5.map cI))) (hm : rec37 a0 a1 a2 a3 a4 a5 a6 = some r0) {w : World} (st : St B L w), Calls Try.prog 37 #[I a0, I a1, .bool a2, U a3, h4, h5, I a6] w (fun e w' => (e = .returned (.bool r0) ∧ St B (L) w'))) {L : List HP} {a0 : Int} {a1 : Int} {a2 : Bool} {a3 : BitVec 32} {a4 : List Bool} {a5 : List Int} {a6 : Int} {h4 : Value} {h5 : Value} {r0 : Bool} (e4 : Ent L (Rd 1 h4 (a4.map cB))) (e5 : Ent L (Rd 1 h5 (a5.map cI))) (hm : F37_B rec37 a0 a1 a2 a3 a4 a5 a6 = some r0) {w : World} (st : St B L w) : Calls Try.prog 37 #[I a0, I a1, .bool a2, U a3, h4, h5, I a6] w (fun e w' => (e = .returned (.bool r0) ∧ St B (L) w')) := by
  refine calls_of (N := 68) (L := L) (args := [I a0, I a1, .bool a2, U a3, h4, h5, I a6]) Try.func37 rfl rfl rfl ?_ st
  dsimp only [F37_B] at hm
  refine TC.k ?_
  refine TC.region ?_
  refine TO.s rfl rfl rfl (StepS.assign rfl) ?_
  refine TO.code ?_
  refine TC.k ?_
  refine TC.region ?_
  refine TO.s rfl rfl rfl (StepS.move rfl) ?_
  refine TO.s rfl rfl rfl (StepS.move rfl) ?_
  refine TO.s rfl rfl rfl (StepS.move rfl) ?_
  refine TO.s rfl rfl rfl (StepS.move rfl) ?_
  refine TO.s rfl rfl rfl (StepS.move rfl) ?_
  obtain ⟨r1, hc2, hm⟩ := bind_some hm
  refine TO.q rfl rfl rfl (StepQ.call kcallB_61_true rfl rfl (fun _ st => C61 e4 e5 hc2 st)) ?_
  refine TO.s rfl rfl rfl (StepS.assign rfl) ?_
  refine TO.code ?_
  refine TC.k ?_
  refine TC.k ?_
  refine TC.region ?_
  refine TO.s rfl rfl rfl (StepS.move rfl) ?_
  refine TO.s rfl rfl rfl (StepS.lenm rfl e5 ksliceB_22_3_1_true rfl) ?_
  refine TO.s rfl rfl rfl (StepS.move rfl) ?_
  refine TO.s rfl rfl rfl (StepS.ari rfl rfl rfl) ?_
  refine TO.s rfl rfl rfl (StepS.cmp rfl rfl rfl) ?_
  refine TO.code ?_
  refine TC.cond rfl (fun hc3 => ?_) (fun hc3 => ?_)
  · replace hm := cond_t hc3 hm
    refine TC.k ?_
    refine TC.region ?_
    refine TO.s rfl rfl rfl (StepS.move rfl) ?_
    refine TO.s rfl rfl rfl (StepS.assign rfl) ?_
    refine TO.code ?_
    cases hm
    refine TC.ret fun a w e s => ?_
    refine FRet.mk1 (P := Try.prog) (fn := Try.f37) (t := 14) e rfl rfl ?_
    exact ⟨rfl, s.mono fun _ => Sat.dropN 0⟩
  · replace hm := cond_f hc3 hm
    refine TC.skipk ?_
    refine TC.k ?_
    refine TC.region ?_
    refine TO.s rfl rfl rfl (StepS.assign rfl) ?_
    refine TO.code ?_
    refine TC.k ?_
    refine TC.region ?_
    refine TO.s rfl rfl rfl (StepS.assign rfl) ?_
    refine TO.code ?_
    refine TC.k ?_
    refine TC.k ?_
    refine TC.region ?_
    refine TO.s rfl rfl rfl (StepS.move rfl) ?_
    refine TO.code ?_
    obtain ⟨x4, hj5, hm⟩ := bind_some hm
    first | refine TC.cutM (fun a w => Mid 68 B [(0, I a0), (1, I a1), (2, .bool a2), (3, U a3), (4, h4), (5, h5), (6, I a6), (16, I x4), (17, I 1)] (L) a w) ?_ ?_ | refine TC.cutX (fun a w => Mid 68 B [(0, I a0), (1, I a1), (2, .bool a2), (3, U a3), (4, h4), (5, h5), (6, I a6), (16, I x4), (17, I 1)] (L) a w) ?_ ?_
    · refine TC.cond rfl (fun hc6 => ?_) (fun hc6 => ?_)
      · replace hj5 := cond_t hc6 hj5
        refine TC.region ?_
        refine TO.s rfl rfl rfl (StepS.assign rfl) ?_
        cases hj5
        refine TO.nil fun a w e s => ?_
        exact ⟨e.sub (lk_of_allIn ⟨rfl, rfl, rfl, rfl, rfl, rfl, rfl, rfl, rfl, trivial⟩), s⟩
      · replace hj5 := cond_f hc6 hj5
        cases hj5
        refine TC.skip fun a w e s => ?_
        exact ⟨e.sub (lk_of_allIn ⟨rfl, rfl, rfl, rfl, rfl, rfl, rfl, rfl, rfl, trivial⟩), s⟩
    · intro a w ⟨he, hs⟩
      refine TC.use ?_ he hs
      refine TC.k ?_
      refine TC.k ?_
      refine TC.region ?_
      refine TO.s rfl rfl rfl (StepS.assign rfl) ?_
      refine TO.code ?_
      obtain ⟨o15, hw16, hm⟩ := bind_some hm
      refine TC.loop hw16 (fun (x7, x8, x9) => fun a w => Mid 68 B [(0, I a0), (1, I a1), (2, .bool a2), (3, U a3), (4, h4), (5, h5), (6, I a6), (16, I x7), (17, I x8), (18, I x9)] (L) a w) (fun (x13, x14) => fun a w => Mid 68 B [(16, I x13), (17, I x14)] (L) a w) (fun (_ : Unit) _ _ => False) ?_ ?_ ?_ ?_
      · rintro ⟨x7, x8, x9⟩ o15r hb17 a w ⟨he, hs⟩
        dsimp only [F37_L0] at hb17
        refine TC.use ?_ he hs
        refine TC.k ?_
        refine TC.k ?_
        refine TC.region ?_
        refine TO.s rfl rfl rfl (StepS.move rfl) ?_
        refine TO.s rfl rfl rfl (StepS.move rfl) ?_
        refine TO.s rfl rfl rfl (StepS.cmp rfl rfl rfl) ?_
        refine TO.code ?_
        refine TC.cond rfl (fun hc18 => ?_) (fun hc18 => ?_)
        · replace hb17 := cond_t hc18 hb17
          refine TC.skipk ?_
          refine TC.k ?_
          obtain ⟨⟨x19, x20⟩, hj21, hb17⟩ := bind_some hb17
          first | refine TC.cutM (fun a w => Mid 68 B [(0, I a0), (1, I a1), (2, .bool a2), (3, U a3), (4, h4), (5, h5), (6, I a6), (16, I x19), (17, I x20), (18, I x9)] (L) a w) ?_ ?_ | refine TC.cutX (fun a w => Mid 68 B [(0, I a0), (1, I a1), (2, .bool a2), (3, U a3), (4, h4), (5, h5), (6, I a6), (16, I x19), (17, I x20), (18, I x9)] (L) a w) ?_ ?_
          · refine TC.block ?_
            refine TC.k ?_
            refine TC.region ?_
            refine TO.s rfl rfl rfl (StepS.move rfl) ?_
            refine TO.s rfl rfl rfl (StepS.move rfl) ?_
            refine TO.s rfl rfl rfl (StepS.cmp rfl rfl rfl) ?_
            refine TO.s rfl rfl rfl (StepS.move rfl) ?_
            obtain ⟨b23, hj24, hj21⟩ := bind_some hj21
            refine TO.mid1 5 45 (.bool b23) ?_ ?_
            · refine bcase ((x9 != a6)) (fun hb22 => ?_) (fun hb22 => ?_)
              · replace hj24 := cond_t hb22 hj24
                refine TO.sw rfl rfl rfl hb22 rfl rfl (StepS.move rfl) ?_
                refine TO.sw rfl rfl rfl hb22 rfl rfl (StepS.move rfl) ?_
                obtain ⟨r25, hc26, hj24⟩ := bind_some hj24
                refine TO.qw rfl rfl rfl hb22 rfl rfl (StepQ.call kcallB_62_true rfl rfl (fun _ st => C62 e5 hc26 st)) ?_
                refine TO.sw rfl rfl rfl hb22 rfl rfl (StepS.not rfl) ?_
                cases hj24
                refine TO.s rfl rfl rfl (StepS.pickT rfl hb22 rfl) ?_
                exact TO.up1 5 0 rfl rfl rfl rfl
              · replace hj24 := cond_f hb22 hj24
                cases hj24
                refine TO.skip rfl rfl rfl (skipF hb22) rfl rfl ?_
                refine TO.skip rfl rfl rfl (skipF hb22) rfl rfl ?_
                refine TO.skip rfl rfl rfl (skipF hb22) rfl rfl ?_
                refine TO.skip rfl rfl rfl (skipF hb22) rfl rfl ?_
                refine TO.s rfl rfl rfl (StepS.pickF rfl hb22 rfl) ?_
                exact TO.up1 5 0 rfl rfl rfl rfl
            refine TO.code ?_
            refine TC.cond rfl (fun hc27 => ?_) (fun hc27 => ?_)
            · replace hj21 := cond_t hc27 hj21
              refine TC.k ?_
              refine TC.region ?_
              refine TO.s rfl rfl rfl (StepS.move rfl) ?_
              refine TO.s rfl rfl rfl (StepS.ari rfl rfl rfl) ?_
              refine TO.s rfl rfl rfl (StepS.assign rfl) ?_
              refine TO.code ?_
              refine TC.k ?_
              refine TC.region ?_
              refine TO.s rfl rfl rfl (StepS.move rfl) ?_
              refine TO.s rfl rfl rfl (StepS.move rfl) ?_
              refine TO.s rfl rfl rfl (StepS.move rfl) ?_
              refine TO.s rfl rfl rfl (StepS.move rfl) ?_
              refine TO.s rfl rfl rfl (StepS.move rfl) ?_
              refine TO.lit0 (f := cI) ksliceB_22_3_1_true rfl fun v28 => ?_
              refine TO.s rfl rfl rfl (StepS.move rfl) ?_
              obtain ⟨y30, hk31, hj21⟩ := bind_some hj21
              refine TO.app (k := 0) (f := cI) kelemB_22_3_1_8_true (by decide) rfl rfl rfl e5.tl hk31 (fun x c hc => by simp [Value.oneCell'] at hc ⊢; first | (obtain rfl := hc; rfl) | (rcases hc with rfl <;> rfl)) rfl rfl fun v32 => ?_
              refine TO.s rfl rfl rfl (StepS.move rfl) ?_
              refine TO.litS (f := cI) ([x9] : List Int) kelemB_22_3_1_8_true kinfo_3_bind_zero_some_I_0 rfl rfl (fun _ => rfl) rfl rfl (by kernel_rfl) rfl fun v33 => ?_
              obtain ⟨y35, hk36, hj21⟩ := bind_some hj21
              refine TO.app (k := 1) (f := cI) kelemB_22_3_1_8_true (by decide) rfl rfl rfl (OwnS.rd (Ent.at 0 rfl)) hk36 (fun x c hc => by simp [Value.oneCell'] at hc ⊢; first | (obtain rfl := hc; rfl) | (rcases hc with rfl <;> rfl)) rfl rfl fun v37 => ?_
              refine TO.s rfl rfl rfl (StepS.move rfl) ?_
              obtain ⟨r38, hc39, hj21⟩ := bind_some hj21
              refine TO.q rfl rfl rfl (StepQ.call kcallB_37_true rfl rfl (fun _ st => ih e4.tl.tl (OwnS.rd (Ent.at 1 rfl)) hc39 st)) ?_
              refine TO.code ?_
              refine TC.cond rfl (fun hc40 => ?_) (fun hc40 => ?_)
              · replace hj21 := cond_t hc40 hj21
                refine TC.region ?_
                refine TO.s rfl rfl rfl (StepS.move rfl) ?_
                refine TO.s rfl rfl rfl (StepS.ari rfl rfl rfl) ?_
                refine TO.s rfl rfl rfl (StepS.assign rfl) ?_
                cases hj21
                refine TO.nil fun a w e s => ?_
                exact ⟨e.sub (lk_of_allIn ⟨rfl, rfl, rfl, rfl, rfl, rfl, rfl, rfl, rfl, rfl, trivial⟩), s.mono fun _ => Sat.dropN 2⟩
              · replace hj21 := cond_f hc40 hj21
                cases hj21
                refine TC.skip fun a w e s => ?_
                exact ⟨e.sub (lk_of_allIn ⟨rfl, rfl, rfl, rfl, rfl, rfl, rfl, rfl, rfl, rfl, trivial⟩), s.mono fun _ => Sat.dropN 2⟩
            · replace hj21 := cond_f hc27 hj21
              cases hj21
              refine TC.skip fun a w e s => ?_
              exact ⟨e.sub (lk_of_allIn ⟨rfl, rfl, rfl, rfl, rfl, rfl, rfl, rfl, rfl, rfl, trivial⟩), s⟩
          · intro a w ⟨he, hs⟩
            refine TC.use ?_ he hs
            refine TC.region ?_
            refine TO.s rfl rfl rfl (StepS.move rfl) ?_
            refine TO.s rfl rfl rfl (StepS.ari rfl rfl rfl) ?_
            refine TO.s rfl rfl rfl (StepS.assign rfl) ?_
            cases hb17
            refine TO.nil fun a w e s => ?_
            exact ⟨e.sub (lk_of_allIn ⟨rfl, rfl, rfl, rfl, rfl, rfl, rfl, rfl, rfl, rfl, trivial⟩), s⟩
        · replace hb17 := cond_f hc18 hb17
          cases hb17
          refine TC.exit rfl fun a w e s => ?_
          exact ⟨e.sub (lk_of_allIn ⟨rfl, rfl, trivial⟩), s⟩
      · exact fun a w e s => ⟨e.sub (lk_of_allIn ⟨rfl, rfl, rfl, rfl, rfl, rfl, rfl, rfl, rfl, rfl, trivial⟩), s⟩
      · rintro ⟨x13, x14⟩ rfl a w ⟨he, hs⟩
        dsimp only [Ctl.on] at hm
        refine TC.use ?_ he hs
        refine TC.k ?_
        refine TC.region ?_
        refine TO.s rfl rfl rfl (StepS.move rfl) ?_
        refine TO.s rfl rfl rfl (StepS.move rfl) ?_
        refine TO.s rfl rfl rfl (StepS.ari rfl rfl rfl) ?_
        refine TO.s rfl rfl rfl (StepS.move rfl) ?_
        refine TO.s rfl rfl rfl (StepS.cmp rfl rfl rfl) ?_
        refine TO.s rfl rfl rfl (StepS.assign rfl) ?_
        refine TO.code ?_
        cases hm
        refine TC.ret fun a w e s => ?_
        refine FRet.mk1 (P := Try.prog) (fn := Try.f37) (t := 14) e rfl rfl ?_
        exact ⟨rfl, s.mono fun _ => Sat.dropN 0⟩
      · rintro r rfl
        exact fun a w h => h.elim
theorem C37_R {B : World} : ∀ (n : Nat) {L : List HP} {a0 : Int} {a1 : Int} {a2 : Bool} {a3 : BitVec 32} {a4 : List Bool} {a5 : List Int} {a6 : Int} {h4 : Value} {h5 : Value} {r0 : Bool} (e4 : Ent L (Rd 1 h4 (a4.map cB))) (e5 : Ent L (Rd 1 h5 (a5.map cI))) (hm : F37_R n a0 a1 a2 a3 a4 a5 a6 = some r0) {w : World} (st : St B L w), Calls Try.prog 37 #[I a0, I a1, .bool a2, U a3, h4, h5, I a6] w (fun e w' => (e = .returned (.bool r0) ∧ St B (L) w')) := by
  intro n
  induction n with
  | zero => intro L a0 a1 a2 a3 a4 a5 a6 h4 h5 r0 e4 e5 hm w st; cases hm
  | succ n ih => intro L a0 a1 a2 a3 a4 a5 a6 h4 h5 r0 e4 e5 hm w st; exact C37_B (F37_R n) (@ih) e4 e5 hm st
theorem C37 {B : World} {L : List HP} {a0 : Int} {a1 : Int} {a2 : Bool} {a3 : BitVec 32} {a4 : List Bool} {a5 : List Int} {a6 : Int} {h4 : Value} {h5 : Value} {r0 : Bool} (e4 : Ent L (Rd 1 h4 (a4.map cB))) (e5 : Ent L (Rd 1 h5 (a5.map cI))) (hm : F37 a0 a1 a2 a3 a4 a5 a6 = some r0) {w : World} (st : St B L w) : Calls Try.prog 37 #[I a0, I a1, .bool a2, U a3, h4, h5, I a6] w (fun e w' => (e = .returned (.bool r0) ∧ St B (L) w')) := by
  obtain ⟨n, hn⟩ := fixO_spec hm
  exact C37_R n e4 e5 hn st

set_option maxRecDepth 100000 in
theorem C12 {B : World} {L : List HP} {a0 : Int} {a1 : Int} {a2 : Bool} {a3 : BitVec 32} {a4 : List Bool} {h4 : Value} {r0 : Bool} (e4 : Ent L (Rd 1 h4 (a4.map cB))) (hm : F12 a0 a1 a2 a3 a4 = some r0) {w : World} (st : St B L w) : Calls Try.prog 12 #[I a0, I a1, .bool a2, U a3, h4] w (fun e w' => (e = .returned (.bool r0) ∧ St B (L) w')) := by
  refine calls_of (N := 93) (L := L) (args := [I a0, I a1, .bool a2, U a3, h4]) Try.func12 rfl rfl rfl ?_ st
  dsimp only [F12] at hm
  refine TC.k ?_
  refine TC.region ?_
  refine TO.s rfl rfl rfl (StepS.assign rfl) ?_
  refine TO.code ?_
  refine TC.k ?_
  refine TC.region ?_
  refine TO.s rfl rfl rfl (StepS.move rfl) ?_
  refine TO.s rfl rfl rfl (StepS.move rfl) ?_
  refine TO.s rfl rfl rfl (StepS.move rfl) ?_
  refine TO.s rfl rfl rfl (StepS.move rfl) ?_
  refine TO.s rfl rfl rfl (StepS.move rfl) ?_
  obtain ⟨⟨r1, r2⟩, hc3, hm⟩ := bind_some hm
  refine TO.callO kcallB_36_true rfl rfl rfl (fun _ st => C36 e4 hc3 st) ?_
  rintro _ _ ⟨v4, rfl, rfl⟩
  refine TO.s rfl rfl rfl (StepS.move rfl) ?_
  refine TO.s rfl rfl rfl (StepS.extract rfl rfl) ?_
  refine TO.s rfl rfl rfl (StepS.extract rfl rfl) ?_
  refine TO.s rfl rfl rfl (StepS.assign rfl) ?_
  refine TO.s rfl rfl rfl (StepS.assign rfl) ?_
  refine TO.code ?_
  refine TC.k ?_
  refine TC.region ?_
  refine TO.s rfl rfl rfl (StepS.assign rfl) ?_
  refine TO.code ?_
  refine TC.k ?_
  refine TC.k ?_
  refine TC.region ?_
  refine TO.s rfl rfl rfl (StepS.move rfl) ?_
  refine TO.s rfl rfl rfl (StepS.cmp rfl rfl rfl) ?_
  refine TO.s rfl rfl rfl (StepS.move rfl) ?_
  refine TO.mid1 3 29 (.bool ((decide (a0 < 1)) || (decide (a0 > 7)))) ?_ ?_
  · refine bcase ((decide (a0 < 1))) (fun hb6 => ?_) (fun hb6 => ?_)
    · refine TO.skip rfl rfl rfl (skipT hb6) rfl rfl ?_
      refine TO.skip rfl rfl rfl (skipT hb6) rfl rfl ?_
      refine TO.s rfl rfl rfl (StepS.pickT rfl hb6 rfl) ?_
      exact TO.up1 3 0 rfl rfl (by rw [hb6]; rfl) rfl
    · refine TO.sw rfl rfl rfl hb6 rfl rfl (StepS.move rfl) ?_
      refine TO.sw rfl rfl rfl hb6 rfl rfl (StepS.cmp rfl rfl rfl) ?_
      refine TO.s rfl rfl rfl (StepS.pickF rfl hb6 rfl) ?_
      exact TO.up1 3 0 rfl rfl (by rw [hb6]; rfl) rfl
  refine TO.code ?_
  obtain ⟨x7, hj8, hm⟩ := bind_some hm
  first | refine TC.cutM (fun a w => Mid 93 B [(0, I a0), (1, I a1), (2, .bool a2), (3, U a3), (4, h4), (11, v4), (12, I r2), (13, I x7)] (OwnS 4 1 v4 (r1.map cB) :: L) a w) ?_ ?_ | refine TC.cutX (fun a w => Mid 93 B [(0, I a0), (1, I a1), (2, .bool a2), (3, U a3), (4, h4), (11, v4), (12, I r2), (13, I x7)] (OwnS 4 1 v4 (r1.map cB) :: L) a w) ?_ ?_
  · refine TC.cond rfl (fun hc9 => ?_) (fun hc9 => ?_)
    · replace hj8 := cond_t hc9 hj8
      refine TC.region ?_
      refine TO.s rfl rfl rfl (StepS.assign rfl) ?_
      cases hj8
      refine TO.nil fun a w e s => ?_
      exact ⟨e.sub (lk_of_allIn ⟨rfl, rfl, rfl, rfl, rfl, rfl, rfl, rfl, trivial⟩), s⟩
    · replace hj8 := cond_f hc9 hj8
      refine TC.k ?_
      refine TC.region ?_
      refine TO.s rfl rfl rfl (StepS.move rfl) ?_
      refine TO.s rfl rfl rfl (StepS.cmp rfl rfl rfl) ?_
      refine TO.s rfl rfl rfl (StepS.move rfl) ?_
      refine TO.mid1 3 35 (.bool ((decide (a1 < 0)) || (decide (a1 > 2)))) ?_ ?_
      · refine bcase ((decide (a1 < 0))) (fun hb10 => ?_) (fun hb10 => ?_)
        · refine TO.skip rfl rfl rfl (skipT hb10) rfl rfl ?_
          refine TO.skip rfl rfl rfl (skipT hb10) rfl rfl ?_
          refine TO.s rfl rfl rfl (StepS.pickT rfl hb10 rfl) ?_
          exact TO.up1 3 0 rfl rfl (by rw [hb10]; rfl) rfl
        · refine TO.sw rfl rfl rfl hb10 rfl rfl (StepS.move rfl) ?_
          refine TO.sw rfl rfl rfl hb10 rfl rfl (StepS.cmp rfl rfl rfl) ?_
          refine TO.s rfl rfl rfl (StepS.pickF rfl hb10 rfl) ?_
          exact TO.up1 3 0 rfl rfl (by rw [hb10]; rfl) rfl
      refine TO.s rfl rfl rfl (StepS.move rfl) ?_
      refine TO.mid1 6 42 (.bool (((decide (a1 < 0)) || (decide (a1 > 2))) || (decide (((1#32) <<< (u64 a0).toNat) ≤ a3)))) ?_ ?_
      · refine bcase (((decide (a1 < 0)) || (decide (a1 > 2)))) (fun hb11 => ?_) (fun hb11 => ?_)
        · refine TO.skip rfl rfl rfl (skipT hb11) rfl rfl ?_
          refine TO.skip rfl rfl rfl (skipT hb11) rfl rfl ?_
          refine TO.skip rfl rfl rfl (skipT hb11) rfl rfl ?_
          refine TO.skip rfl rfl rfl (skipT hb11) rfl rfl ?_
          refine TO.skip rfl rfl rfl (skipT hb11) rfl rfl ?_
          refine TO.s rfl rfl rfl (StepS.pickT rfl hb11 rfl) ?_
          exact TO.up1 6 0 rfl rfl (by rw [hb11]; rfl) rfl
        · refine TO.sw rfl rfl rfl hb11 rfl rfl (StepS.move rfl) ?_
          refine TO.sw rfl rfl rfl hb11 rfl rfl (StepS.move rfl) ?_
          refine TO.sw rfl rfl rfl hb11 rfl rfl (StepS.cvIV kintB_3_i64_true kintB_42_u64_true rfl) ?_
          refine TO.sw rfl rfl rfl hb11 rfl rfl (StepS.shl (m := 1#32) rfl rfl (u64_nonneg _)) ?_
          refine TO.sw rfl rfl rfl hb11 rfl rfl (StepS.cmpU rfl rfl rfl) ?_
          refine TO.s rfl rfl rfl (StepS.pickF rfl hb11 rfl) ?_
          exact TO.up1 6 0 rfl rfl (by rw [hb11]; rfl) rfl
      refine TO.code ?_
      refine TC.cond rfl (fun hc12 => ?_) (fun hc12 => ?_)
      · replace hj8 := cond_t hc12 hj8
        refine TC.region ?_
        refine TO.s rfl rfl rfl (StepS.assign rfl) ?_
        cases hj8
        refine TO.nil fun a w e s => ?_
        exact ⟨e.sub (lk_of_allIn ⟨rfl, rfl, rfl, rfl, rfl, rfl, rfl, rfl, trivial⟩), s⟩
      · replace hj8 := cond_f hc12 hj8
        refine TC.k ?_
        refine TC.region ?_
        refine TO.s rfl rfl rfl (StepS.move rfl) ?_
        refine TO.s rfl rfl rfl (StepS.cmpU (n := 0#32) rfl rfl rfl) ?_
        refine TO.s rfl rfl rfl (StepS.move rfl) ?_
        refine TO.mid1 4 49 (.bool ((a3 != (0#32)) && ((a4.length : Int) == 0))) ?_ ?_
        · refine bcase ((a3 != (0#32))) (fun hb13 => ?_) (fun hb13 => ?_)
          · refine TO.sw rfl rfl rfl hb13 rfl rfl (StepS.move rfl) ?_
            refine TO.sw rfl rfl rfl hb13 rfl rfl (StepS.lenm rfl e4.tl ksliceB_53_4_1_true rfl) ?_
            refine TO.sw rfl rfl rfl hb13 rfl rfl (StepS.cmp rfl rfl rfl) ?_
            refine TO.s rfl rfl rfl (StepS.pickT rfl hb13 rfl) ?_
            exact TO.up1 4 0 rfl rfl (by rw [hb13]; rfl) rfl
          · refine TO.skip rfl rfl rfl (skipF hb13) rfl rfl ?_
            refine TO.skip rfl rfl rfl (skipF hb13) rfl rfl ?_
            refine TO.skip rfl rfl rfl (skipF hb13) rfl rfl ?_
            refine TO.s rfl rfl rfl (StepS.pickF rfl hb13 rfl) ?_
            exact TO.up1 4 0 rfl rfl (by rw [hb13]; rfl) rfl
        refine TO.code ?_
        refine TC.cond rfl (fun hc14 => ?_) (fun hc14 => ?_)
        · replace hj8 := cond_t hc14 hj8
          refine TC.region ?_
          refine TO.s rfl rfl rfl (StepS.assign rfl) ?_
          cases hj8
          refine TO.nil fun a w e s => ?_
          exact ⟨e.sub (lk_of_allIn ⟨rfl, rfl, rfl, rfl, rfl, rfl, rfl, rfl, trivial⟩), s⟩
        · replace hj8 := cond_f hc14 hj8
          cases hj8
          refine TC.skip fun a w e s => ?_
          exact ⟨e.sub (lk_of_allIn ⟨rfl, rfl, rfl, rfl, rfl, rfl, rfl, rfl, trivial⟩), s⟩
  · intro a w ⟨he, hs⟩
    refine TC.use ?_ he hs
    refine TC.k ?_
    refine TC.k ?_
    refine TC.region ?_
    refine TO.s rfl rfl rfl (StepS.move rfl) ?_
    refine TO.s rfl rfl rfl (StepS.cmp rfl rfl rfl) ?_
    refine TO.code ?_
    refine TC.cond rfl (fun hc15 => ?_) (fun hc15 => ?_)
    · replace hm := cond_t hc15 hm
      refine TC.k ?_
      refine TC.region ?_
      refine TO.s rfl rfl rfl (StepS.move rfl) ?_
      refine TO.s rfl rfl rfl (StepS.move rfl) ?_
      refine TO.s rfl rfl rfl (StepS.cmp rfl rfl rfl) ?_
      refine TO.s rfl rfl rfl (StepS.move rfl) ?_
      refine TO.mid1 4 59 (.bool ((r2 == x7) && ((r1.length : Int) == 0))) ?_ ?_
      · refine bcase ((r2 == x7)) (fun hb16 => ?_) (fun hb16 => ?_)
        · refine TO.sw rfl rfl rfl hb16 rfl rfl (StepS.move rfl) ?_
          refine TO.sw rfl rfl rfl hb16 rfl rfl (StepS.lenm rfl (OwnS.rd (Ent.at 0 rfl)) ksliceB_53_4_1_true rfl) ?_
          refine TO.sw rfl rfl rfl hb16 rfl rfl (StepS.cmp rfl rfl rfl) ?_
          refine TO.s rfl rfl rfl (StepS.pickT rfl hb16 rfl) ?_
          exact TO.up1 4 0 rfl rfl (by rw [hb16]; rfl) rfl
        · refine TO.skip rfl rfl rfl (skipF hb16) rfl rfl ?_
          refine TO.skip rfl rfl rfl (skipF hb16) rfl rfl ?_
          refine TO.skip rfl rfl rfl (skipF hb16) rfl rfl ?_
          refine TO.s rfl rfl rfl (StepS.pickF rfl hb16 rfl) ?_
          exact TO.up1 4 0 rfl rfl (by rw [hb16]; rfl) rfl
      refine TO.s rfl rfl rfl (StepS.assign rfl) ?_
      refine TO.code ?_
      cases hm
      refine TC.ret fun a w e s => ?_
      refine FRet.mk1 (P := Try.prog) (fn := Try.f12) (t := 10) e rfl rfl ?_
      exact ⟨rfl, s.mono fun _ => Sat.dropN 1⟩
    · replace hm := cond_f hc15 hm
      refine TC.skipk ?_
      refine TC.k ?_
      refine TC.k ?_
      refine TC.region ?_
      refine TO.s rfl rfl rfl (StepS.move rfl) ?_
      refine TO.s rfl rfl rfl (StepS.cmp rfl rfl rfl) ?_
      refine TO.s rfl rfl rfl (StepS.move rfl) ?_
      refine TO.mid1 5 67 (.bool ((r2 != 0) || ((r1.length : Int) != a0))) ?_ ?_
      · refine bcase ((r2 != 0)) (fun hb17 => ?_) (fun hb17 => ?_)
        · refine TO.skip rfl rfl rfl (skipT hb17) rfl rfl ?_
          refine TO.skip rfl rfl rfl (skipT hb17) rfl rfl ?_
          refine TO.skip rfl rfl rfl (skipT hb17) rfl rfl ?_
          refine TO.skip rfl rfl rfl (skipT hb17) rfl rfl ?_
          refine TO.s rfl rfl rfl (StepS.pickT rfl hb17 rfl) ?_
          exact TO.up1 5 0 rfl rfl (by rw [hb17]; rfl) rfl
        · refine TO.sw rfl rfl rfl hb17 rfl rfl (StepS.move rfl) ?_
          refine TO.sw rfl rfl rfl hb17 rfl rfl (StepS.lenm rfl (OwnS.rd (Ent.at 0 rfl)) ksliceB_53_4_1_true rfl) ?_
          refine TO.sw rfl rfl rfl hb17 rfl rfl (StepS.move rfl) ?_
          refine TO.sw rfl rfl rfl hb17 rfl rfl (StepS.cmp rfl rfl rfl) ?_
          refine TO.s rfl rfl rfl (StepS.pickF rfl hb17 rfl) ?_
          exact TO.up1 5 0 rfl rfl (by rw [hb17]; rfl) rfl
      refine TO.s rfl rfl rfl (StepS.move rfl) ?_
      obtain ⟨b19, hj20, hm⟩ := bind_some hm
      refine TO.mid1 6 74 (.bool b19) ?_ ?_
      · refine bcase (((r2 != 0) || ((r1.length : Int) != a0))) (fun hb18 => ?_) (fun hb18 => ?_)
        · replace hj20 := cond_t hb18 hj20
          cases hj20
          refine TO.skip rfl rfl rfl (skipT hb18) rfl rfl ?_
          refine TO.skip rfl rfl rfl (skipT hb18) rfl rfl ?_
          refine TO.skip rfl rfl rfl (skipT hb18) rfl rfl ?_
          refine TO.skip rfl rfl rfl (skipT hb18) rfl rfl ?_
          refine TO.skip rfl rfl rfl (skipT hb18) rfl rfl ?_
          refine TO.s rfl rfl rfl (StepS.pickT rfl hb18 rfl) ?_
          exact TO.up1 6 0 rfl rfl rfl rfl
        · replace hj20 := cond_f hb18 hj20
          refine TO.sw rfl rfl rfl hb18 rfl rfl (StepS.move rfl) ?_
          obtain ⟨x21, hx22, hj20⟩ := bind_some hj20
          refine TO.sw rfl rfl rfl hb18 rfl rfl (StepS.idx rfl rfl (OwnS.rd (Ent.at 0 rfl)) ksliceB_53_4_1_true (idx_spec hx22).1 (idxm_lt hx22)) ?_
          refine TO.sw rfl rfl rfl hb18 rfl rfl (StepS.ld0 rfl (OwnS.rd (Ent.at 0 rfl)) kscalB_4_true rfl (idxm hx22) rfl) ?_
          refine TO.sw rfl rfl rfl hb18 rfl rfl (StepS.move rfl) ?_
          refine TO.sw rfl rfl rfl hb18 rfl rfl (StepS.neB kunderlying_4_some_bool rfl rfl) ?_
          cases hj20
          refine TO.s rfl rfl rfl (StepS.pickF rfl hb18 rfl) ?_
          exact TO.up1 6 0 rfl rfl rfl rfl
      refine TO.code ?_
      refine TC.cond rfl (fun hc23 => ?_) (fun hc23 => ?_)
      · replace hm := cond_t hc23 hm
        refine TC.k ?_
        refine TC.region ?_
        refine TO.s rfl rfl rfl (StepS.assign rfl) ?_
        refine TO.code ?_
        cases hm
        refine TC.ret fun a w e s => ?_
        refine FRet.mk1 (P := Try.prog) (fn := Try.f12) (t := 10) e rfl rfl ?_
        exact ⟨rfl, s.mono fun _ => Sat.dropN 1⟩
      · replace hm := cond_f hc23 hm
        refine TC.skipk ?_
        refine TC.k ?_
        refine TC.k ?_
        refine TC.region ?_
        refine TO.s rfl rfl rfl (StepS.assign rfl) ?_
        refine TO.code ?_
        obtain ⟨o26, hw27, hm⟩ := bind_some hm
        refine TC.loop hw27 (fun x24 => fun a w => Mid 93 B [(0, I a0), (1, I a1), (2, .bool a2), (3, U a3), (4, h4), (11, v4), (14, I x24)] (OwnS 4 1 v4 (r1.map cB) :: L) a w) (fun _ => fun a w => Mid 93 B [] (OwnS 4 1 v4 (r1.map cB) :: L) a w) (fun r0 => FRet Try.prog Try.f12 (fun e w' => (e = .returned (.bool r0) ∧ St B (L) w'))) ?_ ?_ ?_ ?_
        · rintro x24 o26r hb28 a w ⟨he, hs⟩
          dsimp only [F12_L0] at hb28
          refine TC.use ?_ he hs
          refine TC.k ?_
          refine TC.k ?_
          refine TC.region ?_
          refine TO.s rfl rfl rfl (StepS.move rfl) ?_
          refine TO.s rfl rfl rfl (StepS.move rfl) ?_
          refine TO.s rfl rfl rfl (StepS.cmp rfl rfl rfl) ?_
          refine TO.code ?_
          refine TC.cond rfl (fun hc29 => ?_) (fun hc29 => ?_)
          · replace hb28 := cond_t hc29 hb28
            refine TC.skipk ?_
            refine TC.k ?_
            refine TC.block ?_
            refine TC.k ?_
            refine TC.region_any (OwnS 4 1 v4 (r1.map cB) :: L) 13 13 kfollows_mixedOrders_true rfl ?_
            refine TA.takeW 0 rfl rfl rfl rfl (StepS.move rfl) (by kernel_rfl) (by kernel_rfl) (by kernel_rfl) rfl (.inr (fun _ s => s)) ?_
            refine TA.takeW 1 rfl rfl rfl rfl (StepS.move rfl) (by kernel_rfl) (by kernel_rfl) (by kernel_rfl) rfl (.inr (fun _ s => s)) ?_
            obtain ⟨xq30_2_1, hxq30_2_2, hb28⟩ := bind_some hb28
            refine TA.take 2 rfl rfl rfl rfl (StepS.idx rfl rfl (OwnS.rd (Ent.at 0 rfl)) ksliceB_53_4_1_true (idx_spec hxq30_2_2).1 (idxm_lt hxq30_2_2)) (by kernel_rfl) (by kernel_rfl) (by kernel_rfl) (by kernel_rfl) (by kernel_rfl) (fun _ s => s) ?_
            refine TA.take 3 rfl rfl rfl rfl (StepS.ld0 rfl (OwnS.rd (Ent.at 0 rfl)) kscalB_4_true rfl (idxm hxq30_2_2) rfl) (by kernel_rfl) (by kernel_rfl) (by kernel_rfl) (by kernel_rfl) (by kernel_rfl) (fun _ s => s) ?_
            refine TA.takeW 4 rfl rfl rfl rfl (StepS.move rfl) (by kernel_rfl) (by kernel_rfl) (by kernel_rfl) rfl (.inr (fun _ s => s)) ?_
            refine TA.takeW 5 rfl rfl rfl rfl (StepS.move rfl) (by kernel_rfl) (by kernel_rfl) (by kernel_rfl) rfl (.inr (fun _ s => s)) ?_
            refine TA.takeW 6 rfl rfl rfl rfl (StepS.move rfl) (by kernel_rfl) (by kernel_rfl) (by kernel_rfl) rfl (.inr (fun _ s => s)) ?_
            refine TA.takeW 7 rfl rfl rfl rfl (StepS.move rfl) (by kernel_rfl) (by kernel_rfl) (by kernel_rfl) rfl (.inr (fun _ s => s)) ?_
            refine TA.takeW 8 rfl rfl rfl rfl (StepS.move rfl) (by kernel_rfl) (by kernel_rfl) (by kernel_rfl) rfl (.inr (fun _ s => s)) ?_
            refine TA.takeW 10 rfl rfl rfl rfl (StepS.move rfl) (by kernel_rfl) (by kernel_rfl) (by kernel_rfl) rfl (.inr (fun _ s => s)) ?_
            refine TA.all1 (i := 9) (by kernel_rfl) ?_
            refine TB.of rfl ?_
            refine TO.litS (f := cI) ([0] : List Int) kelemB_22_3_1_8_true kinfo_3_bind_zero_some_I_0 rfl rfl (fun _ => rfl) rfl rfl (by kernel_rfl) rfl fun vq30_9_1 => ?_
            refine TA.back (.inr (fun _ s => by replace s := Sat.front 1 rfl s; replace s := Sat.erase 1 s; exact s)) ?_
            refine TA.all1 (i := 11) (by kernel_rfl) ?_
            refine TB.of rfl ?_
            obtain ⟨rq30_11_1, hcq30_11_2, hb28⟩ := bind_some hb28
            refine TO.q rfl rfl rfl (StepQ.call kcallB_37_true rfl rfl (fun _ st => C37 e4.tl.tl (OwnS.rd (Ent.at 0 rfl)) hcq30_11_2 st)) ?_
            refine TA.back (.inr (fun _ s => by replace s := Sat.front 1 rfl s; replace s := Sat.erase 1 s; exact s)) ?_
            refine TA.takeW 12 rfl rfl rfl rfl (StepS.neB kunderlying_4_some_bool rfl rfl) (by kernel_rfl) (by kernel_rfl) (by kernel_rfl) rfl (.inr (fun _ s => by replace s := Sat.front 1 rfl s; replace s := Sat.erase 1 s; exact s)) ?_
            refine TA.code (by kernel_rfl) ?_
            refine TC.cond rfl (fun hc31 => ?_) (fun hc31 => ?_)
            · replace hb28 := cond_t hc31 hb28
              refine TC.k ?_
              refine TC.region ?_
              refine TO.s rfl rfl rfl (StepS.assign rfl) ?_
              refine TO.code ?_
              cases hb28
              refine TC.ret fun a w e s => ?_
              refine FRet.mk1 (P := Try.prog) (fn := Try.f12) (t := 10) e rfl rfl ?_
              exact ⟨rfl, s.mono fun _ => Sat.dropN 2⟩
            · replace hb28 := cond_f hc31 hb28
              refine TC.skipk ?_
              refine TC.region ?_
              refine TO.s rfl rfl rfl (StepS.move rfl) ?_
              refine TO.s rfl rfl rfl (StepS.ari rfl rfl rfl) ?_
              refine TO.s rfl rfl rfl (StepS.assign rfl) ?_
              cases hb28
              refine TO.nil fun a w e s => ?_
              exact ⟨e.sub (lk_of_allIn ⟨rfl, rfl, rfl, rfl, rfl, rfl, rfl, trivial⟩), s.mono fun _ => Sat.dropN 1⟩
          · replace hb28 := cond_f hc29 hb28
            cases hb28
            refine TC.exit rfl fun a w e s => ?_
            exact ⟨e.sub (lk_of_allIn trivial), s⟩
        · exact fun a w e s => ⟨e.sub (lk_of_allIn ⟨rfl, rfl, rfl, rfl, rfl, rfl, rfl, trivial⟩), s⟩
        · rintro _ rfl a w ⟨he, hs⟩
          dsimp only [Ctl.on] at hm
          refine TC.use ?_ he hs
          refine TC.k ?_
          refine TC.region ?_
          refine TO.s rfl rfl rfl (StepS.assign rfl) ?_
          refine TO.code ?_
          cases hm
          refine TC.ret fun a w e s => ?_
          refine FRet.mk1 (P := Try.prog) (fn := Try.f12) (t := 10) e rfl rfl ?_
          exact ⟨rfl, s.mono fun _ => Sat.dropN 1⟩
        · rintro r rfl
          cases hm
          exact fun a w h => h
end Go.Proofs.Ytdjmlbjkendobaa
