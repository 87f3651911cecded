/-
  The walks: each Go function returns what its model says. Written by a program (gen.py).
-/
import Derived.Test.YtacggcanjanmkaaProg
import Derived.KernelRfl
import Derived.Test.YtacggcanjanmkaaAW
import Derived.Test.YtacggcanjanmkaaBW
import Derived.Test.YtacggcanjanmkaaCM
namespace Go.Proofs.Ytacggcanjanmkaa
open Go Go.Bk
set_option linter.unusedVariables false
set_option linter.unnecessarySimpa false
theorem kcallB_32_true : callB Try.prog 32 = true := by kernel_rfl
theorem kscalB_24_true : scalB Try.prog 24 = true := by kernel_rfl
theorem ksizeB_36_1_true : sizeB Try.prog 36 1 = true := by kernel_rfl
theorem kfieldB_48_1_1_true : fieldB Try.prog 48 1 1 = true := by kernel_rfl
theorem kcallB_12_true : callB Try.prog 12 = true := by kernel_rfl

set_option maxHeartbeats 1000000 in
set_option maxRecDepth 100000 in
theorem C21 {B : World} {L : List HP} {a0 : ((List (Int × Int × Int × BitVec 32)) × List (Int × Int)) × List ((List (Int × Int)) × Int × (List Int) × List Int)} {a1 : Int} {a2 : Int} {b0_ : Nat} {h0_1 : Nat} {h0_2 : Value} {h0_3 : Value} {h0_4 : Value} {h0_5 : List (List Value)} {r0 : Int} {s0 : ((List (Int × Int × Int × BitVec 32)) × List (Int × Int)) × List ((List (Int × Int)) × Int × (List Int) × List Int)} (hm : F21 a0 a1 a2 = some (r0, s0)) {w : World} (st : St B (Bx b0_ 43 [.pointer (some ⟨h0_1, 0, none⟩), h0_4] :: Bx h0_1 64 [h0_2, h0_3] :: OwnS 67 4 h0_2 (a0.1.1.map cTiiiiu32) :: OwnS 79 2 h0_3 (a0.1.2.map cTii) :: SN 48 4 nT48 h0_4 h0_5 (a0.2) :: L) w) : Calls Try.prog 21 #[.pointer (some ⟨b0_, 0, none⟩), I a1, I a2] w (fun e w' => ∃ v M, e = .returned v ∧ (∃ (qhs1 : List (List Value)), v = I r0 ∧ M = (Bx b0_ 43 [.pointer (some ⟨h0_1, 0, none⟩), h0_4] :: Bx h0_1 64 [h0_2, h0_3] :: OwnS 67 4 h0_2 (s0.1.1.map cTiiiiu32) :: OwnS 79 2 h0_3 (s0.1.2.map cTii) :: SN 48 4 nT48 h0_4 qhs1 (s0.2) :: L)) ∧ St B M w') := by
  refine calls_of (N := 178) (L := (Bx b0_ 43 [.pointer (some ⟨h0_1, 0, none⟩), h0_4] :: Bx h0_1 64 [h0_2, h0_3] :: OwnS 67 4 h0_2 (a0.1.1.map cTiiiiu32) :: OwnS 79 2 h0_3 (a0.1.2.map cTii) :: SN 48 4 nT48 h0_4 h0_5 (a0.2) :: L)) (args := [.pointer (some ⟨b0_, 0, none⟩), I a1, I a2]) Try.func21 rfl rfl rfl ?_ st
  dsimp only [F21] at hm
  refine TC.k ?_
  refine TC.region ?_
  refine TO.s rfl rfl rfl (StepS.assign rfl) ?_
  refine TO.code ?_
  refine TC.k ?_
  refine TC.k ?_
  refine TC.region ?_
  refine TO.s rfl rfl rfl (StepS.move rfl) ?_
  refine TO.s rfl rfl rfl (StepS.nilc rfl) ?_
  refine TO.s rfl rfl rfl (StepS.fld rfl kfieldB_43_0_0_true) ?_
  refine TO.s rfl rfl rfl (StepS.ldB rfl (Ent.at 0 rfl) kscalB_39_true rfl) ?_
  refine TO.s rfl rfl rfl (StepS.move rfl) ?_
  refine TO.s rfl rfl rfl (StepS.move rfl) ?_
  refine TO.ghost (fun _ s => Sat.front 2 rfl s) ?_
  refine TO.ghost (fun _ s => Sat.front 2 rfl s) ?_
  obtain ⟨⟨r7, r8⟩, hc9, hm⟩ := bind_some hm
  refine TO.callO kcallB_32_true rfl rfl rfl (fun _ st => C32 (a0 := a0.1.1)  hc9 st) ?_
  rintro _ _ ⟨rfl, rfl⟩
  refine TO.s rfl rfl rfl (StepS.assign rfl) ?_
  refine TO.code ?_
  refine TC.k ?_
  refine TC.region ?_
  refine TO.s rfl rfl rfl (StepS.move rfl) ?_
  refine TO.s rfl rfl rfl (StepS.cmp rfl rfl rfl) ?_
  refine TO.code ?_
  refine TC.cond rfl (fun hc11 => ?_) (fun hc11 => ?_)
  · replace hm := cond_t hc11 hm
    refine TC.k ?_
    refine TC.region ?_
    refine TO.s rfl rfl rfl (StepS.move rfl) ?_
    refine TO.s rfl rfl rfl (StepS.assign rfl) ?_
    refine TO.code ?_
    cases hm
    refine TC.ret fun a w e s => ?_
    refine FRet.mk1 (P := Try.prog) (fn := Try.f21) (t := 6) e rfl rfl ?_
    refine ⟨_, _, rfl, ⟨(h0_5), rfl, rfl⟩, ?_⟩
    refine s.mono fun _ s => ?_
    exact Sat.by [4, 4, 3, 3, 4] 5 0 (by kernel_rfl) s
  · replace hm := cond_f hc11 hm
    refine TC.skipk ?_
    refine TC.k ?_
    refine TC.region_still kfollows_mixedOrders_true (by kernel_rfl) ?_
    refine TS.s rfl rfl rfl (StepS.move rfl) ?_
    refine TS.s rfl rfl rfl (StepS.nilc rfl) ?_
    refine TS.s rfl rfl rfl (StepS.fld rfl kfieldB_43_1_1_true) ?_
    refine TS.s rfl rfl rfl (StepS.ldB rfl (Ent.at 2 rfl) kscalB_41_true rfl) ?_
    refine TS.s rfl rfl rfl (StepS.move rfl) ?_
    obtain ⟨x12, hx13, hm⟩ := bind_some hm
    refine TS.s rfl rfl rfl (StepS.idxN rfl rfl (Ent.at 4 rfl) ksliceB_41_48_4_true hx13) ?_
    refine TS.s rfl rfl rfl (StepS.move rfl) ?_
    refine TS.s rfl rfl rfl (StepS.nilc rfl) ?_
    refine TS.s rfl rfl rfl (StepS.fld rfl kfieldB_43_1_1_true) ?_
    refine TS.s rfl rfl rfl (StepS.ldB rfl (Ent.at 2 rfl) kscalB_41_true rfl) ?_
    refine TS.s rfl rfl rfl (StepS.move rfl) ?_
    obtain ⟨x14, hx15, hm⟩ := bind_some hm
    refine TS.s rfl rfl rfl (StepS.idxN rfl rfl (Ent.at 4 rfl) ksliceB_41_48_4_true hx15) ?_
    refine TS.s rfl rfl rfl (StepS.assign rfl) ?_
    refine TS.s rfl rfl rfl (StepS.assign rfl) ?_
    refine TS.code ?_
    refine TC.k ?_
    refine TC.region ?_
    refine TO.s rfl rfl rfl (StepS.move rfl) ?_
    refine TO.s rfl rfl rfl (StepS.nilc rfl) ?_
    refine TO.s rfl rfl rfl (StepS.ptrf rfl kfieldB_48_3_3_true) ?_
    refine TO.s rfl rfl rfl (StepS.ldN (j := 3) rfl (Ent.at 4 rfl) kscalB_24_true hx13 rfl rfl) ?_
    refine TO.s rfl rfl rfl (StepS.move rfl) ?_
    obtain ⟨x16, hx17, hm⟩ := bind_some hm
    refine TO.s rfl rfl rfl (StepS.idx rfl rfl (OwnS.rd (SN.piece (Ent.at 4 rfl) hx13 2 rfl)) ksliceB_24_3_1_true (idx_spec hx17).1 (idxm_lt hx17)) ?_
    refine TO.s rfl rfl rfl (StepS.ld0 rfl (OwnS.rd (SN.piece (Ent.at 4 rfl) hx13 2 rfl)) kscalB_3_true rfl (idxm hx17) rfl) ?_
    refine TO.s rfl rfl rfl (StepS.assign rfl) ?_
    refine TO.code ?_
    refine TC.k ?_
    refine TC.k ?_
    refine TC.region_still kfollows_mixedOrders_true (by kernel_rfl) ?_
    refine TS.s rfl rfl rfl (StepS.move rfl) ?_
    refine TS.s rfl rfl rfl (StepS.move rfl) ?_
    refine TS.s rfl rfl rfl (StepS.nilc rfl) ?_
    refine TS.s rfl rfl rfl (StepS.ptrf rfl kfieldB_48_0_0_true) ?_
    refine TS.s rfl rfl rfl (StepS.ldN (j := 0) rfl (Ent.at 4 rfl) kscalB_36_true hx15 rfl rfl) ?_
    refine TS.s rfl rfl rfl (StepS.lenm rfl (OwnS.rd (SN.piece (Ent.at 4 rfl) hx15 0 rfl)) ksliceB_36_52_2_true rfl) ?_
    refine TS.s rfl rfl rfl (StepS.cmp rfl rfl rfl) ?_
    refine TS.s rfl rfl rfl (StepS.move rfl) ?_
    obtain ⟨b19, hj20, hm⟩ := bind_some hm
    refine TS.mid1 22 69 (.bool b19) ?_ ?_
    · refine bcase ((decide (x16 > (x14.1.length : Int)))) (fun hb18 => ?_) (fun hb18 => ?_)
      · replace hj20 := cond_t hb18 hj20
        cases hj20
        refine TS.skip rfl rfl rfl (skipT hb18) rfl rfl ?_
        refine TS.skip rfl rfl rfl (skipT hb18) rfl rfl ?_
        refine TS.skip rfl rfl rfl (skipT hb18) rfl rfl ?_
        refine TS.skip rfl rfl rfl skipU rfl rfl ?_
        refine TS.skip rfl rfl rfl skipU rfl rfl ?_
        refine TS.skip rfl rfl rfl skipU rfl rfl ?_
        refine TS.skip rfl rfl rfl skipU rfl rfl ?_
        refine TS.skip rfl rfl rfl skipU rfl rfl ?_
        refine TS.skip rfl rfl rfl skipU rfl rfl ?_
        refine TS.skip rfl rfl rfl skipU rfl rfl ?_
        refine TS.skip rfl rfl rfl skipU rfl rfl ?_
        refine TS.skip rfl rfl rfl skipU rfl rfl ?_
        refine TS.skip rfl rfl rfl skipU rfl rfl ?_
        refine TS.skip rfl rfl rfl skipU rfl rfl ?_
        refine TS.skip rfl rfl rfl skipU rfl rfl ?_
        refine TS.skip rfl rfl rfl skipU rfl rfl ?_
        refine TS.skip rfl rfl rfl skipU rfl rfl ?_
        refine TS.skip rfl rfl rfl skipU rfl rfl ?_
        refine TS.skip rfl rfl rfl skipU rfl rfl ?_
        refine TS.skip rfl rfl rfl skipU rfl rfl ?_
        refine TS.skip rfl rfl rfl (skipT hb18) rfl rfl ?_
        refine TS.s rfl rfl rfl (StepS.pickT rfl hb18 rfl) ?_
        exact TS.up1 22 0 rfl rfl rfl rfl
      · replace hj20 := cond_f hb18 hj20
        refine TS.sw rfl rfl rfl hb18 rfl rfl (StepS.move rfl) ?_
        refine TS.sw rfl rfl rfl hb18 rfl rfl (StepS.cmp rfl rfl rfl) ?_
        refine TS.sw rfl rfl rfl hb18 rfl rfl (StepS.move rfl) ?_
        obtain ⟨b22, hj23, hj20⟩ := bind_some hj20
        refine TS.mid1 18 68 (.bool b22) ?_ ?_
        · refine bcase ((decide (x16 > 0))) (fun hb21 => ?_) (fun hb21 => ?_)
          · replace hj23 := cond_t hb21 hj23
            refine TS.sw rfl rfl rfl hb21 rfl rfl (StepS.move rfl) ?_
            refine TS.sw rfl rfl rfl hb21 rfl rfl (StepS.nilc rfl) ?_
            refine TS.sw rfl rfl rfl hb21 rfl rfl (StepS.ptrf rfl kfieldB_48_0_0_true) ?_
            refine TS.sw rfl rfl rfl hb21 rfl rfl (StepS.ldN (j := 0) rfl (Ent.at 4 rfl) kscalB_36_true hx13 rfl rfl) ?_
            refine TS.sw rfl rfl rfl hb21 rfl rfl (StepS.move rfl) ?_
            refine TS.sw rfl rfl rfl hb21 rfl rfl (StepS.ari rfl rfl rfl) ?_
            obtain ⟨x24, hx25, hj23⟩ := bind_some hj23
            refine TS.sw rfl rfl rfl hb21 rfl rfl (StepS.idx rfl rfl (OwnS.rd (SN.piece (Ent.at 4 rfl) hx13 0 rfl)) ksliceB_36_52_2_true (idx_spec hx25).1 (idxm_lt hx25)) ?_
            refine TS.sw rfl rfl rfl hb21 rfl rfl (StepS.ldE rfl (OwnS.rd (SN.piece (Ent.at 4 rfl) hx13 0 rfl)) kaggB_52_2_true rfl (idxm hx25)) ?_
            refine TS.sw rfl rfl rfl hb21 rfl rfl (StepS.move rfl) ?_
            refine TS.sw rfl rfl rfl hb21 rfl rfl (StepS.nilc rfl) ?_
            refine TS.sw rfl rfl rfl hb21 rfl rfl (StepS.ptrf rfl kfieldB_48_0_0_true) ?_
            refine TS.sw rfl rfl rfl hb21 rfl rfl (StepS.ldN (j := 0) rfl (Ent.at 4 rfl) kscalB_36_true hx15 rfl rfl) ?_
            refine TS.sw rfl rfl rfl hb21 rfl rfl (StepS.move rfl) ?_
            refine TS.sw rfl rfl rfl hb21 rfl rfl (StepS.ari rfl rfl rfl) ?_
            obtain ⟨x26, hx27, hj23⟩ := bind_some hj23
            refine TS.sw rfl rfl rfl hb21 rfl rfl (StepS.idx rfl rfl (OwnS.rd (SN.piece (Ent.at 4 rfl) hx15 0 rfl)) ksliceB_36_52_2_true (idx_spec hx27).1 (idxm_lt hx27)) ?_
            refine TS.sw rfl rfl rfl hb21 rfl rfl (StepS.ldE rfl (OwnS.rd (SN.piece (Ent.at 4 rfl) hx15 0 rfl)) kaggB_52_2_true rfl (idxm hx27)) ?_
            refine TS.sw rfl rfl rfl hb21 rfl rfl (StepS.neSt (r := ((x24.1 == x26.1) && ((x24.2 == x26.2) && true))) kunderlying_52_some_struct_fieldsOf_52 kstoodInHeld_52_false keqGuardType_depth_52_false rfl rfl (by kernel_rfl)) ?_
            cases hj23
            refine TS.sw rfl rfl rfl hb18 rfl rfl (StepS.pickT rfl hb21 rfl) ?_
            exact TS.up1 18 0 rfl rfl rfl rfl
          · replace hj23 := cond_f hb21 hj23
            cases hj23
            refine TS.skip rfl rfl rfl (skipF hb21) rfl rfl ?_
            refine TS.skip rfl rfl rfl (skipF hb21) rfl rfl ?_
            refine TS.skip rfl rfl rfl (skipF hb21) rfl rfl ?_
            refine TS.skip rfl rfl rfl (skipF hb21) rfl rfl ?_
            refine TS.skip rfl rfl rfl (skipF hb21) rfl rfl ?_
            refine TS.skip rfl rfl rfl (skipF hb21) rfl rfl ?_
            refine TS.skip rfl rfl rfl (skipF hb21) rfl rfl ?_
            refine TS.skip rfl rfl rfl (skipF hb21) rfl rfl ?_
            refine TS.skip rfl rfl rfl (skipF hb21) rfl rfl ?_
            refine TS.skip rfl rfl rfl (skipF hb21) rfl rfl ?_
            refine TS.skip rfl rfl rfl (skipF hb21) rfl rfl ?_
            refine TS.skip rfl rfl rfl (skipF hb21) rfl rfl ?_
            refine TS.skip rfl rfl rfl (skipF hb21) rfl rfl ?_
            refine TS.skip rfl rfl rfl (skipF hb21) rfl rfl ?_
            refine TS.skip rfl rfl rfl (skipF hb21) rfl rfl ?_
            refine TS.skip rfl rfl rfl (skipF hb21) rfl rfl ?_
            refine TS.skip rfl rfl rfl (skipF hb21) rfl rfl ?_
            refine TS.sw rfl rfl rfl hb18 rfl rfl (StepS.pickF rfl hb21 rfl) ?_
            exact TS.up1 18 0 rfl rfl rfl rfl
        cases hj20
        refine TS.s rfl rfl rfl (StepS.pickF rfl hb18 rfl) ?_
        exact TS.up1 5 0 rfl rfl rfl rfl
    refine TS.code ?_
    refine TC.cond rfl (fun hc28 => ?_) (fun hc28 => ?_)
    · replace hm := cond_t hc28 hm
      refine TC.k ?_
      refine TC.region ?_
      refine TO.s rfl rfl rfl (StepS.move rfl) ?_
      refine TO.s rfl rfl rfl (StepS.nilc rfl) ?_
      refine TO.s rfl rfl rfl (StepS.ptrf rfl kfieldB_48_3_3_true) ?_
      refine TO.s rfl rfl rfl (StepS.ldN (j := 3) rfl (Ent.at 4 rfl) kscalB_24_true hx13 rfl rfl) ?_
      refine TO.s rfl rfl rfl (StepS.move rfl) ?_
      obtain ⟨x29, hx30, hm⟩ := bind_some hm
      refine TO.s rfl rfl rfl (StepS.idx rfl rfl (OwnS.rd (SN.piece (Ent.at 4 rfl) hx13 2 rfl)) ksliceB_24_3_1_true (idx_spec hx30).1 (idxm_lt hx30)) ?_
      refine TO.s rfl rfl rfl (StepS.ld0 rfl (OwnS.rd (SN.piece (Ent.at 4 rfl) hx13 2 rfl)) kscalB_3_true rfl (idxm hx30) rfl) ?_
      refine TO.s rfl rfl rfl (StepS.ari rfl rfl rfl) ?_
      obtain ⟨x31, hx32, hm⟩ := bind_some hm
      refine TO.s rfl rfl rfl (StepS.idx rfl rfl (OwnS.rd (SN.piece (Ent.at 4 rfl) hx13 2 rfl)) ksliceB_24_3_1_true (idx_spec hx32).1 (idxm_lt hx32)) ?_
      refine TO.ghost (fun _ s => Sat.front 4 rfl s) ?_
      refine TO.openN (L' := (OwnS 52 2 (cv (gr h0_5 a1.toNat) 0) (x12.1.map cTii) :: OwnS 3 1 (cv (gr h0_5 a1.toNat) 1) (x12.2.2.1.map cI) :: OwnS 3 1 (cv (gr h0_5 a1.toNat) 2) (x12.2.2.2.map cI) :: SNh 48 4 nT48 h0_4 h0_5 (a0.2) a1.toNat [(cv (gr h0_5 a1.toNat) 0), I x12.2.1, (cv (gr h0_5 a1.toNat) 1), (cv (gr h0_5 a1.toNat) 2)] :: Bx h0_1 64 [h0_2, h0_3] :: OwnS 67 4 h0_2 (r8.map cTiiiiu32) :: Bx b0_ 43 [.pointer (some ⟨h0_1, 0, none⟩), h0_4] :: OwnS 79 2 h0_3 (a0.1.2.map cTii) :: L)) rfl hx13 rfl ?_
      refine TO.stO (i := a2.toNat) (off := 0) (us := [I (w64 (x29 - 1))]) 2 (w64 (x29 - 1)) rfl rfl rfl ksizeB_3_1_true rfl rfl rfl (idx_spec hx32).2 rfl (by simp [Value.oneCell']) rfl ?_
      refine TO.ghost (fun _ s => Sat.front 3 rfl s) ?_
      refine TO.ghost (fun _ s => Sat.front 3 rfl s) ?_
      refine TO.ghost (fun _ s => Sat.front 3 rfl s) ?_
      refine TO.ghost (fun _ s => Sat.front 3 rfl s) ?_
      obtain ⟨y36, hy37, hm⟩ := bind_some hm
      refine TO.closeNs (T := nT48) (cs := [(cv (gr h0_5 a1.toNat) 0), I x12.2.1, (cv (gr h0_5 a1.toNat) 1), (cv (gr h0_5 a1.toNat) 2)]) (x12.1, x12.2.1, x12.2.2.1, x12.2.2.2.set a2.toNat (w64 (x29 - 1))) rfl rfl hx13 hy37 ?_
      refine TO.code ?_
      refine TC.k ?_
      refine TC.region ?_
      refine TO.s rfl rfl rfl (StepS.assign rfl) ?_
      refine TO.code ?_
      cases hm
      refine TC.ret fun a w e s => ?_
      refine FRet.mk1 (P := Try.prog) (fn := Try.f21) (t := 6) e rfl rfl ?_
      refine ⟨_, _, rfl, ⟨(h0_5), rfl, rfl⟩, ?_⟩
      refine s.mono fun _ s => ?_
      exact Sat.by [0, 4, 3, 3, 4] 5 0 (by kernel_rfl) s
    · replace hm := cond_f hc28 hm
      refine TC.skipk ?_
      refine TC.k ?_
      obtain ⟨o41, hw42, hm⟩ := bind_some hm
      refine TC.loop hw42 (fun x38 => fun a w => Mid 178 B [(2, I a2), (8, ptr h0_4 (a1.toNat * 4)), (9, ptr h0_4 (a2.toNat * 4)), (10, I x38)] (Bx h0_1 64 [h0_2, h0_3] :: OwnS 67 4 h0_2 (r8.map cTiiiiu32) :: Bx b0_ 43 [.pointer (some ⟨h0_1, 0, none⟩), h0_4] :: OwnS 79 2 h0_3 (a0.1.2.map cTii) :: SN 48 4 nT48 h0_4 h0_5 (a0.2) :: L) a w) (fun x40 => fun a w => Mid 178 B [(2, I a2), (8, ptr h0_4 (a1.toNat * 4)), (9, ptr h0_4 (a2.toNat * 4)), (10, I x40)] (Bx h0_1 64 [h0_2, h0_3] :: OwnS 67 4 h0_2 (r8.map cTiiiiu32) :: Bx b0_ 43 [.pointer (some ⟨h0_1, 0, none⟩), h0_4] :: OwnS 79 2 h0_3 (a0.1.2.map cTii) :: SN 48 4 nT48 h0_4 h0_5 (a0.2) :: L) a w) (fun (_ : Unit) _ _ => False) ?_ ?_ ?_ ?_
      · rintro x38 o41r hb43 a w ⟨he, hs⟩
        dsimp only [F21_L0] at hb43
        refine TC.use ?_ he hs
        refine TC.k ?_
        refine TC.k ?_
        refine TC.region_still kfollows_mixedOrders_true (by kernel_rfl) ?_
        refine TS.s rfl rfl rfl (StepS.move rfl) ?_
        refine TS.s rfl rfl rfl (StepS.move rfl) ?_
        refine TS.s rfl rfl rfl (StepS.nilc rfl) ?_
        refine TS.s rfl rfl rfl (StepS.ptrf rfl kfieldB_48_0_0_true) ?_
        refine TS.s rfl rfl rfl (StepS.ldN (j := 0) rfl (Ent.at 4 rfl) kscalB_36_true hx13 rfl rfl) ?_
        refine TS.s rfl rfl rfl (StepS.lenm rfl (OwnS.rd (SN.piece (Ent.at 4 rfl) hx13 0 rfl)) ksliceB_36_52_2_true rfl) ?_
        refine TS.s rfl rfl rfl (StepS.cmp rfl rfl rfl) ?_
        refine TS.s rfl rfl rfl (StepS.move rfl) ?_
        refine TS.mid1 8 94 (.bool ((decide (x38 < (x12.1.length : Int))) && (decide (x38 < (x14.1.length : Int))))) ?_ ?_
        · refine bcase ((decide (x38 < (x12.1.length : Int)))) (fun hb44 => ?_) (fun hb44 => ?_)
          · refine TS.sw rfl rfl rfl hb44 rfl rfl (StepS.move rfl) ?_
            refine TS.sw rfl rfl rfl hb44 rfl rfl (StepS.move rfl) ?_
            refine TS.sw rfl rfl rfl hb44 rfl rfl (StepS.nilc rfl) ?_
            refine TS.sw rfl rfl rfl hb44 rfl rfl (StepS.ptrf rfl kfieldB_48_0_0_true) ?_
            refine TS.sw rfl rfl rfl hb44 rfl rfl (StepS.ldN (j := 0) rfl (Ent.at 4 rfl) kscalB_36_true hx15 rfl rfl) ?_
            refine TS.sw rfl rfl rfl hb44 rfl rfl (StepS.lenm rfl (OwnS.rd (SN.piece (Ent.at 4 rfl) hx15 0 rfl)) ksliceB_36_52_2_true rfl) ?_
            refine TS.sw rfl rfl rfl hb44 rfl rfl (StepS.cmp rfl rfl rfl) ?_
            refine TS.s rfl rfl rfl (StepS.pickT rfl hb44 rfl) ?_
            exact TS.up1 8 0 rfl rfl (by rw [hb44]; rfl) rfl
          · refine TS.skip rfl rfl rfl (skipF hb44) rfl rfl ?_
            refine TS.skip rfl rfl rfl (skipF hb44) rfl rfl ?_
            refine TS.skip rfl rfl rfl (skipF hb44) rfl rfl ?_
            refine TS.skip rfl rfl rfl (skipF hb44) rfl rfl ?_
            refine TS.skip rfl rfl rfl (skipF hb44) rfl rfl ?_
            refine TS.skip rfl rfl rfl (skipF hb44) rfl rfl ?_
            refine TS.skip rfl rfl rfl (skipF hb44) rfl rfl ?_
            refine TS.s rfl rfl rfl (StepS.pickF rfl hb44 rfl) ?_
            exact TS.up1 8 0 rfl rfl (by rw [hb44]; rfl) rfl
        refine TS.s rfl rfl rfl (StepS.move rfl) ?_
        obtain ⟨b46, hj47, hb43⟩ := bind_some hb43
        refine TS.mid1 16 111 (.bool b46) ?_ ?_
        · refine bcase (((decide (x38 < (x12.1.length : Int))) && (decide (x38 < (x14.1.length : Int))))) (fun hb45 => ?_) (fun hb45 => ?_)
          · replace hj47 := cond_t hb45 hj47
            refine TS.sw rfl rfl rfl hb45 rfl rfl (StepS.move rfl) ?_
            refine TS.sw rfl rfl rfl hb45 rfl rfl (StepS.nilc rfl) ?_
            refine TS.sw rfl rfl rfl hb45 rfl rfl (StepS.ptrf rfl kfieldB_48_0_0_true) ?_
            refine TS.sw rfl rfl rfl hb45 rfl rfl (StepS.ldN (j := 0) rfl (Ent.at 4 rfl) kscalB_36_true hx13 rfl rfl) ?_
            refine TS.sw rfl rfl rfl hb45 rfl rfl (StepS.move rfl) ?_
            obtain ⟨x48, hx49, hj47⟩ := bind_some hj47
            refine TS.sw rfl rfl rfl hb45 rfl rfl (StepS.idx rfl rfl (OwnS.rd (SN.piece (Ent.at 4 rfl) hx13 0 rfl)) ksliceB_36_52_2_true (idx_spec hx49).1 (idxm_lt hx49)) ?_
            refine TS.sw rfl rfl rfl hb45 rfl rfl (StepS.ldE rfl (OwnS.rd (SN.piece (Ent.at 4 rfl) hx13 0 rfl)) kaggB_52_2_true rfl (idxm hx49)) ?_
            refine TS.sw rfl rfl rfl hb45 rfl rfl (StepS.move rfl) ?_
            refine TS.sw rfl rfl rfl hb45 rfl rfl (StepS.nilc rfl) ?_
            refine TS.sw rfl rfl rfl hb45 rfl rfl (StepS.ptrf rfl kfieldB_48_0_0_true) ?_
            refine TS.sw rfl rfl rfl hb45 rfl rfl (StepS.ldN (j := 0) rfl (Ent.at 4 rfl) kscalB_36_true hx15 rfl rfl) ?_
            refine TS.sw rfl rfl rfl hb45 rfl rfl (StepS.move rfl) ?_
            obtain ⟨x50, hx51, hj47⟩ := bind_some hj47
            refine TS.sw rfl rfl rfl hb45 rfl rfl (StepS.idx rfl rfl (OwnS.rd (SN.piece (Ent.at 4 rfl) hx15 0 rfl)) ksliceB_36_52_2_true (idx_spec hx51).1 (idxm_lt hx51)) ?_
            refine TS.sw rfl rfl rfl hb45 rfl rfl (StepS.ldE rfl (OwnS.rd (SN.piece (Ent.at 4 rfl) hx15 0 rfl)) kaggB_52_2_true rfl (idxm hx51)) ?_
            refine TS.sw rfl rfl rfl hb45 rfl rfl (StepS.eqSt (r := ((x48.1 == x50.1) && ((x48.2 == x50.2) && true))) kunderlying_52_some_struct_fieldsOf_52 kstoodInHeld_52_false keqGuardType_depth_52_false rfl rfl (by kernel_rfl)) ?_
            cases hj47
            refine TS.s rfl rfl rfl (StepS.pickT rfl hb45 rfl) ?_
            exact TS.up1 16 0 rfl rfl rfl rfl
          · replace hj47 := cond_f hb45 hj47
            cases hj47
            refine TS.skip rfl rfl rfl (skipF hb45) rfl rfl ?_
            refine TS.skip rfl rfl rfl (skipF hb45) rfl rfl ?_
            refine TS.skip rfl rfl rfl (skipF hb45) rfl rfl ?_
            refine TS.skip rfl rfl rfl (skipF hb45) rfl rfl ?_
            refine TS.skip rfl rfl rfl (skipF hb45) rfl rfl ?_
            refine TS.skip rfl rfl rfl (skipF hb45) rfl rfl ?_
            refine TS.skip rfl rfl rfl (skipF hb45) rfl rfl ?_
            refine TS.skip rfl rfl rfl (skipF hb45) rfl rfl ?_
            refine TS.skip rfl rfl rfl (skipF hb45) rfl rfl ?_
            refine TS.skip rfl rfl rfl (skipF hb45) rfl rfl ?_
            refine TS.skip rfl rfl rfl (skipF hb45) rfl rfl ?_
            refine TS.skip rfl rfl rfl (skipF hb45) rfl rfl ?_
            refine TS.skip rfl rfl rfl (skipF hb45) rfl rfl ?_
            refine TS.skip rfl rfl rfl (skipF hb45) rfl rfl ?_
            refine TS.skip rfl rfl rfl (skipF hb45) rfl rfl ?_
            refine TS.s rfl rfl rfl (StepS.pickF rfl hb45 rfl) ?_
            exact TS.up1 16 0 rfl rfl rfl rfl
        refine TS.code ?_
        refine TC.cond rfl (fun hc52 => ?_) (fun hc52 => ?_)
        · replace hb43 := cond_t hc52 hb43
          refine TC.skipk ?_
          refine TC.block ?_
          refine TC.region ?_
          refine TO.s rfl rfl rfl (StepS.move rfl) ?_
          refine TO.s rfl rfl rfl (StepS.ari rfl rfl rfl) ?_
          refine TO.s rfl rfl rfl (StepS.assign rfl) ?_
          cases hb43
          refine TO.nil fun a w e s => ?_
          exact ⟨e.sub (lk_of_allIn ⟨rfl, rfl, rfl, rfl, trivial⟩), s⟩
        · replace hb43 := cond_f hc52 hb43
          cases hb43
          refine TC.exit rfl fun a w e s => ?_
          exact ⟨e.sub (lk_of_allIn ⟨rfl, rfl, rfl, rfl, trivial⟩), s⟩
      · exact fun a w e s => ⟨e.sub (lk_of_allIn ⟨rfl, rfl, rfl, rfl, trivial⟩), s⟩
      · rintro x40 rfl a w ⟨he, hs⟩
        dsimp only [Ctl.on] at hm
        refine TC.use ?_ he hs
        refine TC.k ?_
        refine TC.k ?_
        refine TC.region ?_
        refine TO.s rfl rfl rfl (StepS.move rfl) ?_
        refine TO.s rfl rfl rfl (StepS.move rfl) ?_
        refine TO.s rfl rfl rfl (StepS.nilc rfl) ?_
        refine TO.s rfl rfl rfl (StepS.ptrf rfl kfieldB_48_0_0_true) ?_
        refine TO.s rfl rfl rfl (StepS.ldN (j := 0) rfl (Ent.at 4 rfl) kscalB_36_true hx13 rfl rfl) ?_
        refine TO.s rfl rfl rfl (StepS.lenm rfl (OwnS.rd (SN.piece (Ent.at 4 rfl) hx13 0 rfl)) ksliceB_36_52_2_true rfl) ?_
        refine TO.s rfl rfl rfl (StepS.cmp rfl rfl rfl) ?_
        refine TO.code ?_
        obtain ⟨y53, hj55, hm⟩ := bind_some hm
        first | refine TC.cutM (fun a w => ∃ hs54 : List (List Value), Mid 178 B [(2, I a2), (8, ptr h0_4 (a1.toNat * 4)), (9, ptr h0_4 (a2.toNat * 4))] (Bx h0_1 64 [h0_2, h0_3] :: OwnS 67 4 h0_2 (r8.map cTiiiiu32) :: Bx b0_ 43 [.pointer (some ⟨h0_1, 0, none⟩), h0_4] :: OwnS 79 2 h0_3 (a0.1.2.map cTii) :: SN 48 4 nT48 h0_4 hs54 (y53) :: L) a w) ?_ ?_ | refine TC.cutX (fun a w => ∃ hs54 : List (List Value), Mid 178 B [(2, I a2), (8, ptr h0_4 (a1.toNat * 4)), (9, ptr h0_4 (a2.toNat * 4))] (Bx h0_1 64 [h0_2, h0_3] :: OwnS 67 4 h0_2 (r8.map cTiiiiu32) :: Bx b0_ 43 [.pointer (some ⟨h0_1, 0, none⟩), h0_4] :: OwnS 79 2 h0_3 (a0.1.2.map cTii) :: SN 48 4 nT48 h0_4 hs54 (y53) :: L) a w) ?_ ?_
        · refine TC.cond rfl (fun hc56 => ?_) (fun hc56 => ?_)
          · replace hj55 := cond_t hc56 hj55
            obtain ⟨y58, hj60, hj55⟩ := bind_some hj55
            first | refine TC.cutM (fun a w => ∃ hs59 : List (List Value), Mid 178 B [(2, I a2), (8, ptr h0_4 (a1.toNat * 4)), (9, ptr h0_4 (a2.toNat * 4))] (Bx h0_1 64 [h0_2, h0_3] :: OwnS 67 4 h0_2 (r8.map cTiiiiu32) :: Bx b0_ 43 [.pointer (some ⟨h0_1, 0, none⟩), h0_4] :: OwnS 79 2 h0_3 (a0.1.2.map cTii) :: SN 48 4 nT48 h0_4 hs59 (y58) :: L) a w) ?_ ?_ | refine TC.cutX (fun a w => ∃ hs59 : List (List Value), Mid 178 B [(2, I a2), (8, ptr h0_4 (a1.toNat * 4)), (9, ptr h0_4 (a2.toNat * 4))] (Bx h0_1 64 [h0_2, h0_3] :: OwnS 67 4 h0_2 (r8.map cTiiiiu32) :: Bx b0_ 43 [.pointer (some ⟨h0_1, 0, none⟩), h0_4] :: OwnS 79 2 h0_3 (a0.1.2.map cTii) :: SN 48 4 nT48 h0_4 hs59 (y58) :: L) a w) ?_ ?_
            · obtain ⟨yq57_7_1, hsq57_7_2, hj60⟩ := bind_some hj60
              obtain ⟨yq57_13_1, hsq57_13_2, hj60⟩ := bind_some hj60
              obtain ⟨_, hneq57_14_4, hj60⟩ := bind_some hj60
              obtain ⟨yq57_14_5, hkq57_14_6, hj60⟩ := bind_some hj60
              obtain ⟨yq57_17_3, hyq57_17_4, hj60⟩ := bind_some hj60
              refine TC.region_any (Bx h0_1 64 [h0_2, h0_3] :: OwnS 67 4 h0_2 (r8.map cTiiiiu32) :: Bx b0_ 43 [.pointer (some ⟨h0_1, 0, none⟩), h0_4] :: OwnS 79 2 h0_3 (a0.1.2.map cTii) :: L) 17 18 kfollows_mixedOrders_true rfl ?_
              refine TA.takeW 0 rfl rfl rfl rfl (StepS.move rfl) (by kernel_rfl) (by kernel_rfl) (by kernel_rfl) rfl (.inr (fun _ s => Sat.by [3, 3, 3, 3] 4 1 (by kernel_rfl) s)) ?_
              refine TA.takeW 1 rfl rfl rfl rfl (StepS.move rfl) (by kernel_rfl) (by kernel_rfl) (by kernel_rfl) rfl (.inr (fun _ s => Sat.by [3, 3, 3, 3] 4 1 (by kernel_rfl) s)) ?_
              refine TA.takeW 2 rfl rfl rfl rfl (StepS.nilc rfl) (by kernel_rfl) (by kernel_rfl) (by kernel_rfl) rfl (.inr (fun _ s => Sat.by [3, 3, 3, 3] 4 1 (by kernel_rfl) s)) ?_
              refine TA.takeW 3 rfl rfl rfl rfl (StepS.ptrf rfl kfieldB_48_0_0_true) (by kernel_rfl) (by kernel_rfl) (by kernel_rfl) rfl (.inr (fun _ s => Sat.by [3, 3, 3, 3] 4 1 (by kernel_rfl) s)) ?_
              refine TA.takeW 5 rfl rfl rfl rfl (StepS.move rfl) (by kernel_rfl) (by kernel_rfl) (by kernel_rfl) rfl (.inr (fun _ s => Sat.by [3, 3, 3, 3] 4 1 (by kernel_rfl) s)) ?_
              refine TA.takeW 6 rfl rfl rfl rfl (StepS.move rfl) (by kernel_rfl) (by kernel_rfl) (by kernel_rfl) rfl (.inr (fun _ s => Sat.by [3, 3, 3, 3] 4 1 (by kernel_rfl) s)) ?_
              refine TA.takeW 8 rfl rfl rfl rfl (StepS.move rfl) (by kernel_rfl) (by kernel_rfl) (by kernel_rfl) rfl (.inr (fun _ s => Sat.by [3, 3, 3, 3] 4 1 (by kernel_rfl) s)) ?_
              refine TA.takeW 9 rfl rfl rfl rfl (StepS.nilc rfl) (by kernel_rfl) (by kernel_rfl) (by kernel_rfl) rfl (.inr (fun _ s => Sat.by [3, 3, 3, 3] 4 1 (by kernel_rfl) s)) ?_
              refine TA.takeW 10 rfl rfl rfl rfl (StepS.ptrf rfl kfieldB_48_0_0_true) (by kernel_rfl) (by kernel_rfl) (by kernel_rfl) rfl (.inr (fun _ s => Sat.by [3, 3, 3, 3] 4 1 (by kernel_rfl) s)) ?_
              refine TA.takeW 12 rfl rfl rfl rfl (StepS.move rfl) (by kernel_rfl) (by kernel_rfl) (by kernel_rfl) rfl (.inr (fun _ s => Sat.by [3, 3, 3, 3] 4 1 (by kernel_rfl) s)) ?_
              refine TA.all2 (i := 4) (j := 11) (by kernel_rfl) ?_ ?_
              · refine TB.of rfl ?_
                refine TO.s rfl rfl rfl (StepS.ldN (j := 0) rfl (Ent.at 4 rfl) kscalB_36_true hx15 rfl rfl) ?_
                refine TA.back (.inr (fun _ s => Sat.by [3, 3, 3, 3] 4 1 (by kernel_rfl) s)) ?_
                refine TA.asL (L' := (Bx h0_1 64 [h0_2, h0_3] :: OwnS 67 4 h0_2 (r8.map cTiiiiu32) :: Bx b0_ 43 [.pointer (some ⟨h0_1, 0, none⟩), h0_4] :: OwnS 79 2 h0_3 (a0.1.2.map cTii) :: SN 48 4 nT48 h0_4 h0_5 (a0.2) :: L)) (listed' := #[true, true, true, true, true, true, true, false, true, true, true, false, true, false, false, false, false, false]) (by kernel_rfl) (by kernel_rfl) ?_
                refine TA.all2 (i := 7) (j := 11) (by kernel_rfl) ?_ ?_
                · refine TB.of rfl ?_
                  refine TO.s rfl rfl rfl (StepS.clip rfl (OwnS.rd (SN.piece (Ent.at 4 rfl) hx15 0 rfl)) ksliceB_36_52_2_true rfl rfl hsq57_7_2) ?_
                  refine TA.back (.inr (fun _ s => Sat.by [3, 3, 3, 3] 4 1 (by kernel_rfl) s)) ?_
                  refine TA.asL (L' := (Bx h0_1 64 [h0_2, h0_3] :: OwnS 67 4 h0_2 (r8.map cTiiiiu32) :: Bx b0_ 43 [.pointer (some ⟨h0_1, 0, none⟩), h0_4] :: OwnS 79 2 h0_3 (a0.1.2.map cTii) :: SN 48 4 nT48 h0_4 h0_5 (a0.2) :: L)) (listed' := #[true, true, true, true, true, true, true, true, true, true, true, false, true, false, false, false, false, false]) (by kernel_rfl) (by kernel_rfl) ?_
                  refine TA.all1 (i := 11) (by kernel_rfl) ?_
                  refine TB.of rfl ?_
                  refine TO.s rfl rfl rfl (StepS.ldN (j := 0) rfl (Ent.at 4 rfl) kscalB_36_true hx13 rfl rfl) ?_
                  refine TA.back (.inr (fun _ s => Sat.by [3, 3, 3, 3] 4 1 (by kernel_rfl) s)) ?_
                  refine TA.asL (L' := (Bx h0_1 64 [h0_2, h0_3] :: OwnS 67 4 h0_2 (r8.map cTiiiiu32) :: Bx b0_ 43 [.pointer (some ⟨h0_1, 0, none⟩), h0_4] :: OwnS 79 2 h0_3 (a0.1.2.map cTii) :: SN 48 4 nT48 h0_4 h0_5 (a0.2) :: L)) (listed' := #[true, true, true, true, true, true, true, true, true, true, true, true, true, false, false, false, false, false]) (by kernel_rfl) (by kernel_rfl) ?_
                  refine TA.all1 (i := 13) (by kernel_rfl) ?_
                  refine TB.of rfl ?_
                  obtain ⟨hsq57_13_2a, hsq57_13_2b, hsq57_13_2c, _⟩ := slI_spec hsq57_13_2
                  refine TO.s rfl rfl rfl (StepS.slc rfl (OwnS.rd (SN.piece (Ent.at 4 rfl) hx13 0 rfl)) ksliceB_36_52_2_true rfl (by simp [bnd]) hsq57_13_2a hsq57_13_2b (by simpa using hsq57_13_2c)) ?_
                  refine TA.back (.inr (fun _ s => Sat.by [3, 3, 3, 3] 4 1 (by kernel_rfl) s)) ?_
                  refine TA.asL (L' := (Bx h0_1 64 [h0_2, h0_3] :: OwnS 67 4 h0_2 (r8.map cTiiiiu32) :: Bx b0_ 43 [.pointer (some ⟨h0_1, 0, none⟩), h0_4] :: OwnS 79 2 h0_3 (a0.1.2.map cTii) :: SN 48 4 nT48 h0_4 h0_5 (a0.2) :: L)) (listed' := #[true, true, true, true, true, true, true, true, true, true, true, true, true, true, false, false, false, false]) (by kernel_rfl) (by kernel_rfl) ?_
                  refine TA.all1 (i := 14) (by kernel_rfl) ?_
                  refine TB.of rfl ?_
                  refine TO.ghost (fun _ s => Sat.front 4 rfl s) ?_
                  refine TO.openN (L' := (OwnS 52 2 (cv (gr h0_5 a2.toNat) 0) (x14.1.map cTii) :: OwnS 3 1 (cv (gr h0_5 a2.toNat) 1) (x14.2.2.1.map cI) :: OwnS 3 1 (cv (gr h0_5 a2.toNat) 2) (x14.2.2.2.map cI) :: SNh 48 4 nT48 h0_4 h0_5 (a0.2) a2.toNat [(cv (gr h0_5 a2.toNat) 0), I x14.2.1, (cv (gr h0_5 a2.toNat) 1), (cv (gr h0_5 a2.toNat) 2)] :: Bx h0_1 64 [h0_2, h0_3] :: OwnS 67 4 h0_2 (r8.map cTiiiiu32) :: Bx b0_ 43 [.pointer (some ⟨h0_1, 0, none⟩), h0_4] :: OwnS 79 2 h0_3 (a0.1.2.map cTii) :: L)) rfl hx15 rfl ?_
                  refine TO.ghost (fun _ s => Sat.clipO 0 rfl hsq57_7_2 s) ?_
                  refine TO.app (k := 0) (f := cTii) kelemB_36_52_2_16_true (by decide) rfl rfl rfl (Ent.sub (OwnS.rd (SNh.beside (Ent.at 3 rfl) hx13 (neI_spec hneq57_14_4) 0 rfl)) hsq57_13_2) hkq57_14_6 (fun x c hc => by simp [Value.oneCell'] at hc ⊢; first | (obtain rfl := hc; rfl) | (rcases hc with rfl | rfl <;> rfl)) rfl rfl fun vq57_14_7 => ?_
                  refine TA.back (.inr (fun _ s => Sat.by [7, 7, 7, 7] 4 4 (by kernel_rfl) s)) ?_
                  refine TA.asL (L' := (OwnS 52 2 vq57_14_7 (yq57_14_5.map cTii) :: OwnS 3 1 (cv (gr h0_5 a2.toNat) 1) (x14.2.2.1.map cI) :: OwnS 3 1 (cv (gr h0_5 a2.toNat) 2) (x14.2.2.2.map cI) :: SNh 48 4 nT48 h0_4 h0_5 (a0.2) a2.toNat [(cv (gr h0_5 a2.toNat) 0), I x14.2.1, (cv (gr h0_5 a2.toNat) 1), (cv (gr h0_5 a2.toNat) 2)] :: Bx h0_1 64 [h0_2, h0_3] :: OwnS 67 4 h0_2 (r8.map cTiiiiu32) :: Bx b0_ 43 [.pointer (some ⟨h0_1, 0, none⟩), h0_4] :: OwnS 79 2 h0_3 (a0.1.2.map cTii) :: L)) (listed' := #[true, true, true, true, true, true, true, true, true, true, true, true, true, true, true, false, false, false]) (by kernel_rfl) (by kernel_rfl) ?_
                  refine TA.takeW 15 rfl rfl rfl rfl (StepS.nilc rfl) (by kernel_rfl) (by kernel_rfl) (by kernel_rfl) rfl (.inr (fun _ s => Sat.by [7, 7, 7, 7] 4 4 (by kernel_rfl) s)) ?_
                  refine TA.takeW 16 rfl rfl rfl rfl (StepS.ptrf rfl kfieldB_48_0_0_true) (by kernel_rfl) (by kernel_rfl) (by kernel_rfl) rfl (.inr (fun _ s => Sat.by [7, 7, 7, 7] 4 4 (by kernel_rfl) s)) ?_
                  refine TA.all1 (i := 17) (by kernel_rfl) ?_
                  refine TB.of rfl ?_
                  refine TO.pure (fun _ s => Rd.one (OwnS.rd (Ent.at 0 rfl)) s) fun ocq57_17_1 => ?_
                  refine TO.ghost (fun _ s => Sat.front 3 rfl s) ?_
                  refine TO.stNh (i := a2) (off := 0) (us := [vq57_14_7]) (cs' := [vq57_14_7, I x14.2.1, (cv (gr h0_5 a2.toNat) 1), (cv (gr h0_5 a2.toNat) 2)]) rfl rfl ksizeB_36_1_true ocq57_17_1.2 rfl rfl hx15 rfl (by intro u hu; simp only [List.mem_cons, List.not_mem_nil, or_false] at hu; rcases hu with rfl <;> first | exact ocq57_17_1.1 | rfl) rfl ?_
                  refine TO.ghost (fun _ s => Sat.front 3 rfl s) ?_
                  refine TO.ghost (fun _ s => Sat.front 3 rfl s) ?_
                  refine TO.ghost (fun _ s => Sat.front 3 rfl s) ?_
                  refine TO.closeN (T := nT48) (cs := [vq57_14_7, I x14.2.1, (cv (gr h0_5 a2.toNat) 1), (cv (gr h0_5 a2.toNat) 2)]) [vq57_14_7, (cv (gr h0_5 a2.toNat) 1), (cv (gr h0_5 a2.toNat) 2)] (yq57_14_5, x14.2.1, x14.2.2.1, x14.2.2.2) rfl rfl hx15 (Option.some.inj hyq57_17_4) fun hsq57_17_2 => ?_
                  refine TA.back (.inl (by kernel_rfl)) ?_
                  refine TA.asL (L' := (SN 48 4 nT48 h0_4 hsq57_17_2 (yq57_17_3) :: Bx h0_1 64 [h0_2, h0_3] :: OwnS 67 4 h0_2 (r8.map cTiiiiu32) :: Bx b0_ 43 [.pointer (some ⟨h0_1, 0, none⟩), h0_4] :: OwnS 79 2 h0_3 (a0.1.2.map cTii) :: L)) (listed' := #[true, true, true, true, true, true, true, true, true, true, true, true, true, true, true, true, true, true]) (by kernel_rfl) (by kernel_rfl) ?_
                  cases hj60
                  refine TA.nil (by kernel_rfl) fun a w e s => ?_
                  exact ⟨hsq57_17_2, e.sub (lk_of_allIn ⟨rfl, rfl, rfl, trivial⟩), s.mono fun _ s => (by exact Sat.by [0, 4, 4, 4, 4] 5 0 (by kernel_rfl) s)⟩
                · refine TB.of rfl ?_
                  refine TO.s rfl rfl rfl (StepS.ldN (j := 0) rfl (Ent.at 4 rfl) kscalB_36_true hx13 rfl rfl) ?_
                  refine TA.back (.inr (fun _ s => Sat.by [3, 3, 3, 3] 4 1 (by kernel_rfl) s)) ?_
                  refine TA.asL (L' := (Bx h0_1 64 [h0_2, h0_3] :: OwnS 67 4 h0_2 (r8.map cTiiiiu32) :: Bx b0_ 43 [.pointer (some ⟨h0_1, 0, none⟩), h0_4] :: OwnS 79 2 h0_3 (a0.1.2.map cTii) :: SN 48 4 nT48 h0_4 h0_5 (a0.2) :: L)) (listed' := #[true, true, true, true, true, true, true, false, true, true, true, true, true, false, false, false, false, false]) (by kernel_rfl) (by kernel_rfl) ?_
                  refine TA.all2 (i := 7) (j := 13) (by kernel_rfl) ?_ ?_
                  · refine TB.of rfl ?_
                    refine TO.s rfl rfl rfl (StepS.clip rfl (OwnS.rd (SN.piece (Ent.at 4 rfl) hx15 0 rfl)) ksliceB_36_52_2_true rfl rfl hsq57_7_2) ?_
                    refine TA.back (.inr (fun _ s => Sat.by [3, 3, 3, 3] 4 1 (by kernel_rfl) s)) ?_
                    refine TA.asL (L' := (Bx h0_1 64 [h0_2, h0_3] :: OwnS 67 4 h0_2 (r8.map cTiiiiu32) :: Bx b0_ 43 [.pointer (some ⟨h0_1, 0, none⟩), h0_4] :: OwnS 79 2 h0_3 (a0.1.2.map cTii) :: SN 48 4 nT48 h0_4 h0_5 (a0.2) :: L)) (listed' := #[true, true, true, true, true, true, true, true, true, true, true, true, true, false, false, false, false, false]) (by kernel_rfl) (by kernel_rfl) ?_
                    refine TA.all1 (i := 13) (by kernel_rfl) ?_
                    refine TB.of rfl ?_
                    obtain ⟨hsq57_13_2a, hsq57_13_2b, hsq57_13_2c, _⟩ := slI_spec hsq57_13_2
                    refine TO.s rfl rfl rfl (StepS.slc rfl (OwnS.rd (SN.piece (Ent.at 4 rfl) hx13 0 rfl)) ksliceB_36_52_2_true rfl (by simp [bnd]) hsq57_13_2a hsq57_13_2b (by simpa using hsq57_13_2c)) ?_
                    refine TA.back (.inr (fun _ s => Sat.by [3, 3, 3, 3] 4 1 (by kernel_rfl) s)) ?_
                    refine TA.asL (L' := (Bx h0_1 64 [h0_2, h0_3] :: OwnS 67 4 h0_2 (r8.map cTiiiiu32) :: Bx b0_ 43 [.pointer (some ⟨h0_1, 0, none⟩), h0_4] :: OwnS 79 2 h0_3 (a0.1.2.map cTii) :: SN 48 4 nT48 h0_4 h0_5 (a0.2) :: L)) (listed' := #[true, true, true, true, true, true, true, true, true, true, true, true, true, true, false, false, false, false]) (by kernel_rfl) (by kernel_rfl) ?_
                    refine TA.all1 (i := 14) (by kernel_rfl) ?_
                    refine TB.of rfl ?_
                    refine TO.ghost (fun _ s => Sat.front 4 rfl s) ?_
                    refine TO.openN (L' := (OwnS 52 2 (cv (gr h0_5 a2.toNat) 0) (x14.1.map cTii) :: OwnS 3 1 (cv (gr h0_5 a2.toNat) 1) (x14.2.2.1.map cI) :: OwnS 3 1 (cv (gr h0_5 a2.toNat) 2) (x14.2.2.2.map cI) :: SNh 48 4 nT48 h0_4 h0_5 (a0.2) a2.toNat [(cv (gr h0_5 a2.toNat) 0), I x14.2.1, (cv (gr h0_5 a2.toNat) 1), (cv (gr h0_5 a2.toNat) 2)] :: Bx h0_1 64 [h0_2, h0_3] :: OwnS 67 4 h0_2 (r8.map cTiiiiu32) :: Bx b0_ 43 [.pointer (some ⟨h0_1, 0, none⟩), h0_4] :: OwnS 79 2 h0_3 (a0.1.2.map cTii) :: L)) rfl hx15 rfl ?_
                    refine TO.ghost (fun _ s => Sat.clipO 0 rfl hsq57_7_2 s) ?_
                    refine TO.app (k := 0) (f := cTii) kelemB_36_52_2_16_true (by decide) rfl rfl rfl (Ent.sub (OwnS.rd (SNh.beside (Ent.at 3 rfl) hx13 (neI_spec hneq57_14_4) 0 rfl)) hsq57_13_2) hkq57_14_6 (fun x c hc => by simp [Value.oneCell'] at hc ⊢; first | (obtain rfl := hc; rfl) | (rcases hc with rfl | rfl <;> rfl)) rfl rfl fun vq57_14_7 => ?_
                    refine TA.back (.inr (fun _ s => Sat.by [7, 7, 7, 7] 4 4 (by kernel_rfl) s)) ?_
                    refine TA.asL (L' := (OwnS 52 2 vq57_14_7 (yq57_14_5.map cTii) :: OwnS 3 1 (cv (gr h0_5 a2.toNat) 1) (x14.2.2.1.map cI) :: OwnS 3 1 (cv (gr h0_5 a2.toNat) 2) (x14.2.2.2.map cI) :: SNh 48 4 nT48 h0_4 h0_5 (a0.2) a2.toNat [(cv (gr h0_5 a2.toNat) 0), I x14.2.1, (cv (gr h0_5 a2.toNat) 1), (cv (gr h0_5 a2.toNat) 2)] :: Bx h0_1 64 [h0_2, h0_3] :: OwnS 67 4 h0_2 (r8.map cTiiiiu32) :: Bx b0_ 43 [.pointer (some ⟨h0_1, 0, none⟩), h0_4] :: OwnS 79 2 h0_3 (a0.1.2.map cTii) :: L)) (listed' := #[true, true, true, true, true, true, true, true, true, true, true, true, true, true, true, false, false, false]) (by kernel_rfl) (by kernel_rfl) ?_
                    refine TA.takeW 15 rfl rfl rfl rfl (StepS.nilc rfl) (by kernel_rfl) (by kernel_rfl) (by kernel_rfl) rfl (.inr (fun _ s => Sat.by [7, 7, 7, 7] 4 4 (by kernel_rfl) s)) ?_
                    refine TA.takeW 16 rfl rfl rfl rfl (StepS.ptrf rfl kfieldB_48_0_0_true) (by kernel_rfl) (by kernel_rfl) (by kernel_rfl) rfl (.inr (fun _ s => Sat.by [7, 7, 7, 7] 4 4 (by kernel_rfl) s)) ?_
                    refine TA.all1 (i := 17) (by kernel_rfl) ?_
                    refine TB.of rfl ?_
                    refine TO.pure (fun _ s => Rd.one (OwnS.rd (Ent.at 0 rfl)) s) fun ocq57_17_1 => ?_
                    refine TO.ghost (fun _ s => Sat.front 3 rfl s) ?_
                    refine TO.stNh (i := a2) (off := 0) (us := [vq57_14_7]) (cs' := [vq57_14_7, I x14.2.1, (cv (gr h0_5 a2.toNat) 1), (cv (gr h0_5 a2.toNat) 2)]) rfl rfl ksizeB_36_1_true ocq57_17_1.2 rfl rfl hx15 rfl (by intro u hu; simp only [List.mem_cons, List.not_mem_nil, or_false] at hu; rcases hu with rfl <;> first | exact ocq57_17_1.1 | rfl) rfl ?_
                    refine TO.ghost (fun _ s => Sat.front 3 rfl s) ?_
                    refine TO.ghost (fun _ s => Sat.front 3 rfl s) ?_
                    refine TO.ghost (fun _ s => Sat.front 3 rfl s) ?_
                    refine TO.closeN (T := nT48) (cs := [vq57_14_7, I x14.2.1, (cv (gr h0_5 a2.toNat) 1), (cv (gr h0_5 a2.toNat) 2)]) [vq57_14_7, (cv (gr h0_5 a2.toNat) 1), (cv (gr h0_5 a2.toNat) 2)] (yq57_14_5, x14.2.1, x14.2.2.1, x14.2.2.2) rfl rfl hx15 (Option.some.inj hyq57_17_4) fun hsq57_17_2 => ?_
                    refine TA.back (.inl (by kernel_rfl)) ?_
                    refine TA.asL (L' := (SN 48 4 nT48 h0_4 hsq57_17_2 (yq57_17_3) :: Bx h0_1 64 [h0_2, h0_3] :: OwnS 67 4 h0_2 (r8.map cTiiiiu32) :: Bx b0_ 43 [.pointer (some ⟨h0_1, 0, none⟩), h0_4] :: OwnS 79 2 h0_3 (a0.1.2.map cTii) :: L)) (listed' := #[true, true, true, true, true, true, true, true, true, true, true, true, true, true, true, true, true, true]) (by kernel_rfl) (by kernel_rfl) ?_
                    cases hj60
                    refine TA.nil (by kernel_rfl) fun a w e s => ?_
                    exact ⟨hsq57_17_2, e.sub (lk_of_allIn ⟨rfl, rfl, rfl, trivial⟩), s.mono fun _ s => (by exact Sat.by [0, 4, 4, 4, 4] 5 0 (by kernel_rfl) s)⟩
                  · refine TB.of rfl ?_
                    obtain ⟨hsq57_13_2a, hsq57_13_2b, hsq57_13_2c, _⟩ := slI_spec hsq57_13_2
                    refine TO.s rfl rfl rfl (StepS.slc rfl (OwnS.rd (SN.piece (Ent.at 4 rfl) hx13 0 rfl)) ksliceB_36_52_2_true rfl (by simp [bnd]) hsq57_13_2a hsq57_13_2b (by simpa using hsq57_13_2c)) ?_
                    refine TA.back (.inr (fun _ s => Sat.by [3, 3, 3, 3] 4 1 (by kernel_rfl) s)) ?_
                    refine TA.asL (L' := (Bx h0_1 64 [h0_2, h0_3] :: OwnS 67 4 h0_2 (r8.map cTiiiiu32) :: Bx b0_ 43 [.pointer (some ⟨h0_1, 0, none⟩), h0_4] :: OwnS 79 2 h0_3 (a0.1.2.map cTii) :: SN 48 4 nT48 h0_4 h0_5 (a0.2) :: L)) (listed' := #[true, true, true, true, true, true, true, false, true, true, true, true, true, true, false, false, false, false]) (by kernel_rfl) (by kernel_rfl) ?_
                    refine TA.all1 (i := 7) (by kernel_rfl) ?_
                    refine TB.of rfl ?_
                    refine TO.s rfl rfl rfl (StepS.clip rfl (OwnS.rd (SN.piece (Ent.at 4 rfl) hx15 0 rfl)) ksliceB_36_52_2_true rfl rfl hsq57_7_2) ?_
                    refine TA.back (.inr (fun _ s => Sat.by [3, 3, 3, 3] 4 1 (by kernel_rfl) s)) ?_
                    refine TA.asL (L' := (Bx h0_1 64 [h0_2, h0_3] :: OwnS 67 4 h0_2 (r8.map cTiiiiu32) :: Bx b0_ 43 [.pointer (some ⟨h0_1, 0, none⟩), h0_4] :: OwnS 79 2 h0_3 (a0.1.2.map cTii) :: SN 48 4 nT48 h0_4 h0_5 (a0.2) :: L)) (listed' := #[true, true, true, true, true, true, true, true, true, true, true, true, true, true, false, false, false, false]) (by kernel_rfl) (by kernel_rfl) ?_
                    refine TA.all1 (i := 14) (by kernel_rfl) ?_
                    refine TB.of rfl ?_
                    refine TO.ghost (fun _ s => Sat.front 4 rfl s) ?_
                    refine TO.openN (L' := (OwnS 52 2 (cv (gr h0_5 a2.toNat) 0) (x14.1.map cTii) :: OwnS 3 1 (cv (gr h0_5 a2.toNat) 1) (x14.2.2.1.map cI) :: OwnS 3 1 (cv (gr h0_5 a2.toNat) 2) (x14.2.2.2.map cI) :: SNh 48 4 nT48 h0_4 h0_5 (a0.2) a2.toNat [(cv (gr h0_5 a2.toNat) 0), I x14.2.1, (cv (gr h0_5 a2.toNat) 1), (cv (gr h0_5 a2.toNat) 2)] :: Bx h0_1 64 [h0_2, h0_3] :: OwnS 67 4 h0_2 (r8.map cTiiiiu32) :: Bx b0_ 43 [.pointer (some ⟨h0_1, 0, none⟩), h0_4] :: OwnS 79 2 h0_3 (a0.1.2.map cTii) :: L)) rfl hx15 rfl ?_
                    refine TO.ghost (fun _ s => Sat.clipO 0 rfl hsq57_7_2 s) ?_
                    refine TO.app (k := 0) (f := cTii) kelemB_36_52_2_16_true (by decide) rfl rfl rfl (Ent.sub (OwnS.rd (SNh.beside (Ent.at 3 rfl) hx13 (neI_spec hneq57_14_4) 0 rfl)) hsq57_13_2) hkq57_14_6 (fun x c hc => by simp [Value.oneCell'] at hc ⊢; first | (obtain rfl := hc; rfl) | (rcases hc with rfl | rfl <;> rfl)) rfl rfl fun vq57_14_7 => ?_
                    refine TA.back (.inr (fun _ s => Sat.by [7, 7, 7, 7] 4 4 (by kernel_rfl) s)) ?_
                    refine TA.asL (L' := (OwnS 52 2 vq57_14_7 (yq57_14_5.map cTii) :: OwnS 3 1 (cv (gr h0_5 a2.toNat) 1) (x14.2.2.1.map cI) :: OwnS 3 1 (cv (gr h0_5 a2.toNat) 2) (x14.2.2.2.map cI) :: SNh 48 4 nT48 h0_4 h0_5 (a0.2) a2.toNat [(cv (gr h0_5 a2.toNat) 0), I x14.2.1, (cv (gr h0_5 a2.toNat) 1), (cv (gr h0_5 a2.toNat) 2)] :: Bx h0_1 64 [h0_2, h0_3] :: OwnS 67 4 h0_2 (r8.map cTiiiiu32) :: Bx b0_ 43 [.pointer (some ⟨h0_1, 0, none⟩), h0_4] :: OwnS 79 2 h0_3 (a0.1.2.map cTii) :: L)) (listed' := #[true, true, true, true, true, true, true, true, true, true, true, true, true, true, true, false, false, false]) (by kernel_rfl) (by kernel_rfl) ?_
                    refine TA.takeW 15 rfl rfl rfl rfl (StepS.nilc rfl) (by kernel_rfl) (by kernel_rfl) (by kernel_rfl) rfl (.inr (fun _ s => Sat.by [7, 7, 7, 7] 4 4 (by kernel_rfl) s)) ?_
                    refine TA.takeW 16 rfl rfl rfl rfl (StepS.ptrf rfl kfieldB_48_0_0_true) (by kernel_rfl) (by kernel_rfl) (by kernel_rfl) rfl (.inr (fun _ s => Sat.by [7, 7, 7, 7] 4 4 (by kernel_rfl) s)) ?_
                    refine TA.all1 (i := 17) (by kernel_rfl) ?_
                    refine TB.of rfl ?_
                    refine TO.pure (fun _ s => Rd.one (OwnS.rd (Ent.at 0 rfl)) s) fun ocq57_17_1 => ?_
                    refine TO.ghost (fun _ s => Sat.front 3 rfl s) ?_
                    refine TO.stNh (i := a2) (off := 0) (us := [vq57_14_7]) (cs' := [vq57_14_7, I x14.2.1, (cv (gr h0_5 a2.toNat) 1), (cv (gr h0_5 a2.toNat) 2)]) rfl rfl ksizeB_36_1_true ocq57_17_1.2 rfl rfl hx15 rfl (by intro u hu; simp only [List.mem_cons, List.not_mem_nil, or_false] at hu; rcases hu with rfl <;> first | exact ocq57_17_1.1 | rfl) rfl ?_
                    refine TO.ghost (fun _ s => Sat.front 3 rfl s) ?_
                    refine TO.ghost (fun _ s => Sat.front 3 rfl s) ?_
                    refine TO.ghost (fun _ s => Sat.front 3 rfl s) ?_
                    refine TO.closeN (T := nT48) (cs := [vq57_14_7, I x14.2.1, (cv (gr h0_5 a2.toNat) 1), (cv (gr h0_5 a2.toNat) 2)]) [vq57_14_7, (cv (gr h0_5 a2.toNat) 1), (cv (gr h0_5 a2.toNat) 2)] (yq57_14_5, x14.2.1, x14.2.2.1, x14.2.2.2) rfl rfl hx15 (Option.some.inj hyq57_17_4) fun hsq57_17_2 => ?_
                    refine TA.back (.inl (by kernel_rfl)) ?_
                    refine TA.asL (L' := (SN 48 4 nT48 h0_4 hsq57_17_2 (yq57_17_3) :: Bx h0_1 64 [h0_2, h0_3] :: OwnS 67 4 h0_2 (r8.map cTiiiiu32) :: Bx b0_ 43 [.pointer (some ⟨h0_1, 0, none⟩), h0_4] :: OwnS 79 2 h0_3 (a0.1.2.map cTii) :: L)) (listed' := #[true, true, true, true, true, true, true, true, true, true, true, true, true, true, true, true, true, true]) (by kernel_rfl) (by kernel_rfl) ?_
                    cases hj60
                    refine TA.nil (by kernel_rfl) fun a w e s => ?_
                    exact ⟨hsq57_17_2, e.sub (lk_of_allIn ⟨rfl, rfl, rfl, trivial⟩), s.mono fun _ s => (by exact Sat.by [0, 4, 4, 4, 4] 5 0 (by kernel_rfl) s)⟩
              · refine TB.of rfl ?_
                refine TO.s rfl rfl rfl (StepS.ldN (j := 0) rfl (Ent.at 4 rfl) kscalB_36_true hx13 rfl rfl) ?_
                refine TA.back (.inr (fun _ s => Sat.by [3, 3, 3, 3] 4 1 (by kernel_rfl) s)) ?_
                refine TA.asL (L' := (Bx h0_1 64 [h0_2, h0_3] :: OwnS 67 4 h0_2 (r8.map cTiiiiu32) :: Bx b0_ 43 [.pointer (some ⟨h0_1, 0, none⟩), h0_4] :: OwnS 79 2 h0_3 (a0.1.2.map cTii) :: SN 48 4 nT48 h0_4 h0_5 (a0.2) :: L)) (listed' := #[true, true, true, true, false, true, true, false, true, true, true, true, true, false, false, false, false, false]) (by kernel_rfl) (by kernel_rfl) ?_
                refine TA.all2 (i := 4) (j := 13) (by kernel_rfl) ?_ ?_
                · refine TB.of rfl ?_
                  refine TO.s rfl rfl rfl (StepS.ldN (j := 0) rfl (Ent.at 4 rfl) kscalB_36_true hx15 rfl rfl) ?_
                  refine TA.back (.inr (fun _ s => Sat.by [3, 3, 3, 3] 4 1 (by kernel_rfl) s)) ?_
                  refine TA.asL (L' := (Bx h0_1 64 [h0_2, h0_3] :: OwnS 67 4 h0_2 (r8.map cTiiiiu32) :: Bx b0_ 43 [.pointer (some ⟨h0_1, 0, none⟩), h0_4] :: OwnS 79 2 h0_3 (a0.1.2.map cTii) :: SN 48 4 nT48 h0_4 h0_5 (a0.2) :: L)) (listed' := #[true, true, true, true, true, true, true, false, true, true, true, true, true, false, false, false, false, false]) (by kernel_rfl) (by kernel_rfl) ?_
                  refine TA.all2 (i := 7) (j := 13) (by kernel_rfl) ?_ ?_
                  · refine TB.of rfl ?_
                    refine TO.s rfl rfl rfl (StepS.clip rfl (OwnS.rd (SN.piece (Ent.at 4 rfl) hx15 0 rfl)) ksliceB_36_52_2_true rfl rfl hsq57_7_2) ?_
                    refine TA.back (.inr (fun _ s => Sat.by [3, 3, 3, 3] 4 1 (by kernel_rfl) s)) ?_
                    refine TA.asL (L' := (Bx h0_1 64 [h0_2, h0_3] :: OwnS 67 4 h0_2 (r8.map cTiiiiu32) :: Bx b0_ 43 [.pointer (some ⟨h0_1, 0, none⟩), h0_4] :: OwnS 79 2 h0_3 (a0.1.2.map cTii) :: SN 48 4 nT48 h0_4 h0_5 (a0.2) :: L)) (listed' := #[true, true, true, true, true, true, true, true, true, true, true, true, true, false, false, false, false, false]) (by kernel_rfl) (by kernel_rfl) ?_
                    refine TA.all1 (i := 13) (by kernel_rfl) ?_
                    refine TB.of rfl ?_
                    obtain ⟨hsq57_13_2a, hsq57_13_2b, hsq57_13_2c, _⟩ := slI_spec hsq57_13_2
                    refine TO.s rfl rfl rfl (StepS.slc rfl (OwnS.rd (SN.piece (Ent.at 4 rfl) hx13 0 rfl)) ksliceB_36_52_2_true rfl (by simp [bnd]) hsq57_13_2a hsq57_13_2b (by simpa using hsq57_13_2c)) ?_
                    refine TA.back (.inr (fun _ s => Sat.by [3, 3, 3, 3] 4 1 (by kernel_rfl) s)) ?_
                    refine TA.asL (L' := (Bx h0_1 64 [h0_2, h0_3] :: OwnS 67 4 h0_2 (r8.map cTiiiiu32) :: Bx b0_ 43 [.pointer (some ⟨h0_1, 0, none⟩), h0_4] :: OwnS 79 2 h0_3 (a0.1.2.map cTii) :: SN 48 4 nT48 h0_4 h0_5 (a0.2) :: L)) (listed' := #[true, true, true, true, true, true, true, true, true, true, true, true, true, true, false, false, false, false]) (by kernel_rfl) (by kernel_rfl) ?_
                    refine TA.all1 (i := 14) (by kernel_rfl) ?_
                    refine TB.of rfl ?_
                    refine TO.ghost (fun _ s => Sat.front 4 rfl s) ?_
                    refine TO.openN (L' := (OwnS 52 2 (cv (gr h0_5 a2.toNat) 0) (x14.1.map cTii) :: OwnS 3 1 (cv (gr h0_5 a2.toNat) 1) (x14.2.2.1.map cI) :: OwnS 3 1 (cv (gr h0_5 a2.toNat) 2) (x14.2.2.2.map cI) :: SNh 48 4 nT48 h0_4 h0_5 (a0.2) a2.toNat [(cv (gr h0_5 a2.toNat) 0), I x14.2.1, (cv (gr h0_5 a2.toNat) 1), (cv (gr h0_5 a2.toNat) 2)] :: Bx h0_1 64 [h0_2, h0_3] :: OwnS 67 4 h0_2 (r8.map cTiiiiu32) :: Bx b0_ 43 [.pointer (some ⟨h0_1, 0, none⟩), h0_4] :: OwnS 79 2 h0_3 (a0.1.2.map cTii) :: L)) rfl hx15 rfl ?_
                    refine TO.ghost (fun _ s => Sat.clipO 0 rfl hsq57_7_2 s) ?_
                    refine TO.app (k := 0) (f := cTii) kelemB_36_52_2_16_true (by decide) rfl rfl rfl (Ent.sub (OwnS.rd (SNh.beside (Ent.at 3 rfl) hx13 (neI_spec hneq57_14_4) 0 rfl)) hsq57_13_2) hkq57_14_6 (fun x c hc => by simp [Value.oneCell'] at hc ⊢; first | (obtain rfl := hc; rfl) | (rcases hc with rfl | rfl <;> rfl)) rfl rfl fun vq57_14_7 => ?_
                    refine TA.back (.inr (fun _ s => Sat.by [7, 7, 7, 7] 4 4 (by kernel_rfl) s)) ?_
                    refine TA.asL (L' := (OwnS 52 2 vq57_14_7 (yq57_14_5.map cTii) :: OwnS 3 1 (cv (gr h0_5 a2.toNat) 1) (x14.2.2.1.map cI) :: OwnS 3 1 (cv (gr h0_5 a2.toNat) 2) (x14.2.2.2.map cI) :: SNh 48 4 nT48 h0_4 h0_5 (a0.2) a2.toNat [(cv (gr h0_5 a2.toNat) 0), I x14.2.1, (cv (gr h0_5 a2.toNat) 1), (cv (gr h0_5 a2.toNat) 2)] :: Bx h0_1 64 [h0_2, h0_3] :: OwnS 67 4 h0_2 (r8.map cTiiiiu32) :: Bx b0_ 43 [.pointer (some ⟨h0_1, 0, none⟩), h0_4] :: OwnS 79 2 h0_3 (a0.1.2.map cTii) :: L)) (listed' := #[true, true, true, true, true, true, true, true, true, true, true, true, true, true, true, false, false, false]) (by kernel_rfl) (by kernel_rfl) ?_
                    refine TA.takeW 15 rfl rfl rfl rfl (StepS.nilc rfl) (by kernel_rfl) (by kernel_rfl) (by kernel_rfl) rfl (.inr (fun _ s => Sat.by [7, 7, 7, 7] 4 4 (by kernel_rfl) s)) ?_
                    refine TA.takeW 16 rfl rfl rfl rfl (StepS.ptrf rfl kfieldB_48_0_0_true) (by kernel_rfl) (by kernel_rfl) (by kernel_rfl) rfl (.inr (fun _ s => Sat.by [7, 7, 7, 7] 4 4 (by kernel_rfl) s)) ?_
                    refine TA.all1 (i := 17) (by kernel_rfl) ?_
                    refine TB.of rfl ?_
                    refine TO.pure (fun _ s => Rd.one (OwnS.rd (Ent.at 0 rfl)) s) fun ocq57_17_1 => ?_
                    refine TO.ghost (fun _ s => Sat.front 3 rfl s) ?_
                    refine TO.stNh (i := a2) (off := 0) (us := [vq57_14_7]) (cs' := [vq57_14_7, I x14.2.1, (cv (gr h0_5 a2.toNat) 1), (cv (gr h0_5 a2.toNat) 2)]) rfl rfl ksizeB_36_1_true ocq57_17_1.2 rfl rfl hx15 rfl (by intro u hu; simp only [List.mem_cons, List.not_mem_nil, or_false] at hu; rcases hu with rfl <;> first | exact ocq57_17_1.1 | rfl) rfl ?_
                    refine TO.ghost (fun _ s => Sat.front 3 rfl s) ?_
                    refine TO.ghost (fun _ s => Sat.front 3 rfl s) ?_
                    refine TO.ghost (fun _ s => Sat.front 3 rfl s) ?_
                    refine TO.closeN (T := nT48) (cs := [vq57_14_7, I x14.2.1, (cv (gr h0_5 a2.toNat) 1), (cv (gr h0_5 a2.toNat) 2)]) [vq57_14_7, (cv (gr h0_5 a2.toNat) 1), (cv (gr h0_5 a2.toNat) 2)] (yq57_14_5, x14.2.1, x14.2.2.1, x14.2.2.2) rfl rfl hx15 (Option.some.inj hyq57_17_4) fun hsq57_17_2 => ?_
                    refine TA.back (.inl (by kernel_rfl)) ?_
                    refine TA.asL (L' := (SN 48 4 nT48 h0_4 hsq57_17_2 (yq57_17_3) :: Bx h0_1 64 [h0_2, h0_3] :: OwnS 67 4 h0_2 (r8.map cTiiiiu32) :: Bx b0_ 43 [.pointer (some ⟨h0_1, 0, none⟩), h0_4] :: OwnS 79 2 h0_3 (a0.1.2.map cTii) :: L)) (listed' := #[true, true, true, true, true, true, true, true, true, true, true, true, true, true, true, true, true, true]) (by kernel_rfl) (by kernel_rfl) ?_
                    cases hj60
                    refine TA.nil (by kernel_rfl) fun a w e s => ?_
                    exact ⟨hsq57_17_2, e.sub (lk_of_allIn ⟨rfl, rfl, rfl, trivial⟩), s.mono fun _ s => (by exact Sat.by [0, 4, 4, 4, 4] 5 0 (by kernel_rfl) s)⟩
                  · refine TB.of rfl ?_
                    obtain ⟨hsq57_13_2a, hsq57_13_2b, hsq57_13_2c, _⟩ := slI_spec hsq57_13_2
                    refine TO.s rfl rfl rfl (StepS.slc rfl (OwnS.rd (SN.piece (Ent.at 4 rfl) hx13 0 rfl)) ksliceB_36_52_2_true rfl (by simp [bnd]) hsq57_13_2a hsq57_13_2b (by simpa using hsq57_13_2c)) ?_
                    refine TA.back (.inr (fun _ s => Sat.by [3, 3, 3, 3] 4 1 (by kernel_rfl) s)) ?_
                    refine TA.asL (L' := (Bx h0_1 64 [h0_2, h0_3] :: OwnS 67 4 h0_2 (r8.map cTiiiiu32) :: Bx b0_ 43 [.pointer (some ⟨h0_1, 0, none⟩), h0_4] :: OwnS 79 2 h0_3 (a0.1.2.map cTii) :: SN 48 4 nT48 h0_4 h0_5 (a0.2) :: L)) (listed' := #[true, true, true, true, true, true, true, false, true, true, true, true, true, true, false, false, false, false]) (by kernel_rfl) (by kernel_rfl) ?_
                    refine TA.all1 (i := 7) (by kernel_rfl) ?_
                    refine TB.of rfl ?_
                    refine TO.s rfl rfl rfl (StepS.clip rfl (OwnS.rd (SN.piece (Ent.at 4 rfl) hx15 0 rfl)) ksliceB_36_52_2_true rfl rfl hsq57_7_2) ?_
                    refine TA.back (.inr (fun _ s => Sat.by [3, 3, 3, 3] 4 1 (by kernel_rfl) s)) ?_
                    refine TA.asL (L' := (Bx h0_1 64 [h0_2, h0_3] :: OwnS 67 4 h0_2 (r8.map cTiiiiu32) :: Bx b0_ 43 [.pointer (some ⟨h0_1, 0, none⟩), h0_4] :: OwnS 79 2 h0_3 (a0.1.2.map cTii) :: SN 48 4 nT48 h0_4 h0_5 (a0.2) :: L)) (listed' := #[true, true, true, true, true, true, true, true, true, true, true, true, true, true, false, false, false, false]) (by kernel_rfl) (by kernel_rfl) ?_
                    refine TA.all1 (i := 14) (by kernel_rfl) ?_
                    refine TB.of rfl ?_
                    refine TO.ghost (fun _ s => Sat.front 4 rfl s) ?_
                    refine TO.openN (L' := (OwnS 52 2 (cv (gr h0_5 a2.toNat) 0) (x14.1.map cTii) :: OwnS 3 1 (cv (gr h0_5 a2.toNat) 1) (x14.2.2.1.map cI) :: OwnS 3 1 (cv (gr h0_5 a2.toNat) 2) (x14.2.2.2.map cI) :: SNh 48 4 nT48 h0_4 h0_5 (a0.2) a2.toNat [(cv (gr h0_5 a2.toNat) 0), I x14.2.1, (cv (gr h0_5 a2.toNat) 1), (cv (gr h0_5 a2.toNat) 2)] :: Bx h0_1 64 [h0_2, h0_3] :: OwnS 67 4 h0_2 (r8.map cTiiiiu32) :: Bx b0_ 43 [.pointer (some ⟨h0_1, 0, none⟩), h0_4] :: OwnS 79 2 h0_3 (a0.1.2.map cTii) :: L)) rfl hx15 rfl ?_
                    refine TO.ghost (fun _ s => Sat.clipO 0 rfl hsq57_7_2 s) ?_
                    refine TO.app (k := 0) (f := cTii) kelemB_36_52_2_16_true (by decide) rfl rfl rfl (Ent.sub (OwnS.rd (SNh.beside (Ent.at 3 rfl) hx13 (neI_spec hneq57_14_4) 0 rfl)) hsq57_13_2) hkq57_14_6 (fun x c hc => by simp [Value.oneCell'] at hc ⊢; first | (obtain rfl := hc; rfl) | (rcases hc with rfl | rfl <;> rfl)) rfl rfl fun vq57_14_7 => ?_
                    refine TA.back (.inr (fun _ s => Sat.by [7, 7, 7, 7] 4 4 (by kernel_rfl) s)) ?_
                    refine TA.asL (L' := (OwnS 52 2 vq57_14_7 (yq57_14_5.map cTii) :: OwnS 3 1 (cv (gr h0_5 a2.toNat) 1) (x14.2.2.1.map cI) :: OwnS 3 1 (cv (gr h0_5 a2.toNat) 2) (x14.2.2.2.map cI) :: SNh 48 4 nT48 h0_4 h0_5 (a0.2) a2.toNat [(cv (gr h0_5 a2.toNat) 0), I x14.2.1, (cv (gr h0_5 a2.toNat) 1), (cv (gr h0_5 a2.toNat) 2)] :: Bx h0_1 64 [h0_2, h0_3] :: OwnS 67 4 h0_2 (r8.map cTiiiiu32) :: Bx b0_ 43 [.pointer (some ⟨h0_1, 0, none⟩), h0_4] :: OwnS 79 2 h0_3 (a0.1.2.map cTii) :: L)) (listed' := #[true, true, true, true, true, true, true, true, true, true, true, true, true, true, true, false, false, false]) (by kernel_rfl) (by kernel_rfl) ?_
                    refine TA.takeW 15 rfl rfl rfl rfl (StepS.nilc rfl) (by kernel_rfl) (by kernel_rfl) (by kernel_rfl) rfl (.inr (fun _ s => Sat.by [7, 7, 7, 7] 4 4 (by kernel_rfl) s)) ?_
                    refine TA.takeW 16 rfl rfl rfl rfl (StepS.ptrf rfl kfieldB_48_0_0_true) (by kernel_rfl) (by kernel_rfl) (by kernel_rfl) rfl (.inr (fun _ s => Sat.by [7, 7, 7, 7] 4 4 (by kernel_rfl) s)) ?_
                    refine TA.all1 (i := 17) (by kernel_rfl) ?_
                    refine TB.of rfl ?_
                    refine TO.pure (fun _ s => Rd.one (OwnS.rd (Ent.at 0 rfl)) s) fun ocq57_17_1 => ?_
                    refine TO.ghost (fun _ s => Sat.front 3 rfl s) ?_
                    refine TO.stNh (i := a2) (off := 0) (us := [vq57_14_7]) (cs' := [vq57_14_7, I x14.2.1, (cv (gr h0_5 a2.toNat) 1), (cv (gr h0_5 a2.toNat) 2)]) rfl rfl ksizeB_36_1_true ocq57_17_1.2 rfl rfl hx15 rfl (by intro u hu; simp only [List.mem_cons, List.not_mem_nil, or_false] at hu; rcases hu with rfl <;> first | exact ocq57_17_1.1 | rfl) rfl ?_
                    refine TO.ghost (fun _ s => Sat.front 3 rfl s) ?_
                    refine TO.ghost (fun _ s => Sat.front 3 rfl s) ?_
                    refine TO.ghost (fun _ s => Sat.front 3 rfl s) ?_
                    refine TO.closeN (T := nT48) (cs := [vq57_14_7, I x14.2.1, (cv (gr h0_5 a2.toNat) 1), (cv (gr h0_5 a2.toNat) 2)]) [vq57_14_7, (cv (gr h0_5 a2.toNat) 1), (cv (gr h0_5 a2.toNat) 2)] (yq57_14_5, x14.2.1, x14.2.2.1, x14.2.2.2) rfl rfl hx15 (Option.some.inj hyq57_17_4) fun hsq57_17_2 => ?_
                    refine TA.back (.inl (by kernel_rfl)) ?_
                    refine TA.asL (L' := (SN 48 4 nT48 h0_4 hsq57_17_2 (yq57_17_3) :: Bx h0_1 64 [h0_2, h0_3] :: OwnS 67 4 h0_2 (r8.map cTiiiiu32) :: Bx b0_ 43 [.pointer (some ⟨h0_1, 0, none⟩), h0_4] :: OwnS 79 2 h0_3 (a0.1.2.map cTii) :: L)) (listed' := #[true, true, true, true, true, true, true, true, true, true, true, true, true, true, true, true, true, true]) (by kernel_rfl) (by kernel_rfl) ?_
                    cases hj60
                    refine TA.nil (by kernel_rfl) fun a w e s => ?_
                    exact ⟨hsq57_17_2, e.sub (lk_of_allIn ⟨rfl, rfl, rfl, trivial⟩), s.mono fun _ s => (by exact Sat.by [0, 4, 4, 4, 4] 5 0 (by kernel_rfl) s)⟩
                · refine TB.of rfl ?_
                  obtain ⟨hsq57_13_2a, hsq57_13_2b, hsq57_13_2c, _⟩ := slI_spec hsq57_13_2
                  refine TO.s rfl rfl rfl (StepS.slc rfl (OwnS.rd (SN.piece (Ent.at 4 rfl) hx13 0 rfl)) ksliceB_36_52_2_true rfl (by simp [bnd]) hsq57_13_2a hsq57_13_2b (by simpa using hsq57_13_2c)) ?_
                  refine TA.back (.inr (fun _ s => Sat.by [3, 3, 3, 3] 4 1 (by kernel_rfl) s)) ?_
                  refine TA.asL (L' := (Bx h0_1 64 [h0_2, h0_3] :: OwnS 67 4 h0_2 (r8.map cTiiiiu32) :: Bx b0_ 43 [.pointer (some ⟨h0_1, 0, none⟩), h0_4] :: OwnS 79 2 h0_3 (a0.1.2.map cTii) :: SN 48 4 nT48 h0_4 h0_5 (a0.2) :: L)) (listed' := #[true, true, true, true, false, true, true, false, true, true, true, true, true, true, false, false, false, false]) (by kernel_rfl) (by kernel_rfl) ?_
                  refine TA.all1 (i := 4) (by kernel_rfl) ?_
                  refine TB.of rfl ?_
                  refine TO.s rfl rfl rfl (StepS.ldN (j := 0) rfl (Ent.at 4 rfl) kscalB_36_true hx15 rfl rfl) ?_
                  refine TA.back (.inr (fun _ s => Sat.by [3, 3, 3, 3] 4 1 (by kernel_rfl) s)) ?_
                  refine TA.asL (L' := (Bx h0_1 64 [h0_2, h0_3] :: OwnS 67 4 h0_2 (r8.map cTiiiiu32) :: Bx b0_ 43 [.pointer (some ⟨h0_1, 0, none⟩), h0_4] :: OwnS 79 2 h0_3 (a0.1.2.map cTii) :: SN 48 4 nT48 h0_4 h0_5 (a0.2) :: L)) (listed' := #[true, true, true, true, true, true, true, false, true, true, true, true, true, true, false, false, false, false]) (by kernel_rfl) (by kernel_rfl) ?_
                  refine TA.all1 (i := 7) (by kernel_rfl) ?_
                  refine TB.of rfl ?_
                  refine TO.s rfl rfl rfl (StepS.clip rfl (OwnS.rd (SN.piece (Ent.at 4 rfl) hx15 0 rfl)) ksliceB_36_52_2_true rfl rfl hsq57_7_2) ?_
                  refine TA.back (.inr (fun _ s => Sat.by [3, 3, 3, 3] 4 1 (by kernel_rfl) s)) ?_
                  refine TA.asL (L' := (Bx h0_1 64 [h0_2, h0_3] :: OwnS 67 4 h0_2 (r8.map cTiiiiu32) :: Bx b0_ 43 [.pointer (some ⟨h0_1, 0, none⟩), h0_4] :: OwnS 79 2 h0_3 (a0.1.2.map cTii) :: SN 48 4 nT48 h0_4 h0_5 (a0.2) :: L)) (listed' := #[true, true, true, true, true, true, true, true, true, true, true, true, true, true, false, false, false, false]) (by kernel_rfl) (by kernel_rfl) ?_
                  refine TA.all1 (i := 14) (by kernel_rfl) ?_
                  refine TB.of rfl ?_
                  refine TO.ghost (fun _ s => Sat.front 4 rfl s) ?_
                  refine TO.openN (L' := (OwnS 52 2 (cv (gr h0_5 a2.toNat) 0) (x14.1.map cTii) :: OwnS 3 1 (cv (gr h0_5 a2.toNat) 1) (x14.2.2.1.map cI) :: OwnS 3 1 (cv (gr h0_5 a2.toNat) 2) (x14.2.2.2.map cI) :: SNh 48 4 nT48 h0_4 h0_5 (a0.2) a2.toNat [(cv (gr h0_5 a2.toNat) 0), I x14.2.1, (cv (gr h0_5 a2.toNat) 1), (cv (gr h0_5 a2.toNat) 2)] :: Bx h0_1 64 [h0_2, h0_3] :: OwnS 67 4 h0_2 (r8.map cTiiiiu32) :: Bx b0_ 43 [.pointer (some ⟨h0_1, 0, none⟩), h0_4] :: OwnS 79 2 h0_3 (a0.1.2.map cTii) :: L)) rfl hx15 rfl ?_
                  refine TO.ghost (fun _ s => Sat.clipO 0 rfl hsq57_7_2 s) ?_
                  refine TO.app (k := 0) (f := cTii) kelemB_36_52_2_16_true (by decide) rfl rfl rfl (Ent.sub (OwnS.rd (SNh.beside (Ent.at 3 rfl) hx13 (neI_spec hneq57_14_4) 0 rfl)) hsq57_13_2) hkq57_14_6 (fun x c hc => by simp [Value.oneCell'] at hc ⊢; first | (obtain rfl := hc; rfl) | (rcases hc with rfl | rfl <;> rfl)) rfl rfl fun vq57_14_7 => ?_
                  refine TA.back (.inr (fun _ s => Sat.by [7, 7, 7, 7] 4 4 (by kernel_rfl) s)) ?_
                  refine TA.asL (L' := (OwnS 52 2 vq57_14_7 (yq57_14_5.map cTii) :: OwnS 3 1 (cv (gr h0_5 a2.toNat) 1) (x14.2.2.1.map cI) :: OwnS 3 1 (cv (gr h0_5 a2.toNat) 2) (x14.2.2.2.map cI) :: SNh 48 4 nT48 h0_4 h0_5 (a0.2) a2.toNat [(cv (gr h0_5 a2.toNat) 0), I x14.2.1, (cv (gr h0_5 a2.toNat) 1), (cv (gr h0_5 a2.toNat) 2)] :: Bx h0_1 64 [h0_2, h0_3] :: OwnS 67 4 h0_2 (r8.map cTiiiiu32) :: Bx b0_ 43 [.pointer (some ⟨h0_1, 0, none⟩), h0_4] :: OwnS 79 2 h0_3 (a0.1.2.map cTii) :: L)) (listed' := #[true, true, true, true, true, true, true, true, true, true, true, true, true, true, true, false, false, false]) (by kernel_rfl) (by kernel_rfl) ?_
                  refine TA.takeW 15 rfl rfl rfl rfl (StepS.nilc rfl) (by kernel_rfl) (by kernel_rfl) (by kernel_rfl) rfl (.inr (fun _ s => Sat.by [7, 7, 7, 7] 4 4 (by kernel_rfl) s)) ?_
                  refine TA.takeW 16 rfl rfl rfl rfl (StepS.ptrf rfl kfieldB_48_0_0_true) (by kernel_rfl) (by kernel_rfl) (by kernel_rfl) rfl (.inr (fun _ s => Sat.by [7, 7, 7, 7] 4 4 (by kernel_rfl) s)) ?_
                  refine TA.all1 (i := 17) (by kernel_rfl) ?_
                  refine TB.of rfl ?_
                  refine TO.pure (fun _ s => Rd.one (OwnS.rd (Ent.at 0 rfl)) s) fun ocq57_17_1 => ?_
                  refine TO.ghost (fun _ s => Sat.front 3 rfl s) ?_
                  refine TO.stNh (i := a2) (off := 0) (us := [vq57_14_7]) (cs' := [vq57_14_7, I x14.2.1, (cv (gr h0_5 a2.toNat) 1), (cv (gr h0_5 a2.toNat) 2)]) rfl rfl ksizeB_36_1_true ocq57_17_1.2 rfl rfl hx15 rfl (by intro u hu; simp only [List.mem_cons, List.not_mem_nil, or_false] at hu; rcases hu with rfl <;> first | exact ocq57_17_1.1 | rfl) rfl ?_
                  refine TO.ghost (fun _ s => Sat.front 3 rfl s) ?_
                  refine TO.ghost (fun _ s => Sat.front 3 rfl s) ?_
                  refine TO.ghost (fun _ s => Sat.front 3 rfl s) ?_
                  refine TO.closeN (T := nT48) (cs := [vq57_14_7, I x14.2.1, (cv (gr h0_5 a2.toNat) 1), (cv (gr h0_5 a2.toNat) 2)]) [vq57_14_7, (cv (gr h0_5 a2.toNat) 1), (cv (gr h0_5 a2.toNat) 2)] (yq57_14_5, x14.2.1, x14.2.2.1, x14.2.2.2) rfl rfl hx15 (Option.some.inj hyq57_17_4) fun hsq57_17_2 => ?_
                  refine TA.back (.inl (by kernel_rfl)) ?_
                  refine TA.asL (L' := (SN 48 4 nT48 h0_4 hsq57_17_2 (yq57_17_3) :: Bx h0_1 64 [h0_2, h0_3] :: OwnS 67 4 h0_2 (r8.map cTiiiiu32) :: Bx b0_ 43 [.pointer (some ⟨h0_1, 0, none⟩), h0_4] :: OwnS 79 2 h0_3 (a0.1.2.map cTii) :: L)) (listed' := #[true, true, true, true, true, true, true, true, true, true, true, true, true, true, true, true, true, true]) (by kernel_rfl) (by kernel_rfl) ?_
                  cases hj60
                  refine TA.nil (by kernel_rfl) fun a w e s => ?_
                  exact ⟨hsq57_17_2, e.sub (lk_of_allIn ⟨rfl, rfl, rfl, trivial⟩), s.mono fun _ s => (by exact Sat.by [0, 4, 4, 4, 4] 5 0 (by kernel_rfl) s)⟩
            · intro a w ⟨hs59, he, hs⟩
              cases hj55
              have e := he; have s := hs
              exact ⟨hs59, e.sub (lk_of_allIn ⟨rfl, rfl, rfl, trivial⟩), s⟩
          · replace hj55 := cond_f hc56 hj55
            cases hj55
            refine TC.skip fun a w e s => ?_
            exact ⟨h0_5, e.sub (lk_of_allIn ⟨rfl, rfl, rfl, trivial⟩), s⟩
        · intro a w ⟨hs54, he, hs⟩
          refine TC.use ?_ he hs
          refine TC.k ?_
          obtain ⟨y62, hj63, hm⟩ := bind_some hm
          first | refine TC.cutM (fun a w => Mid 178 B [(8, ptr h0_4 (a1.toNat * 4)), (9, ptr h0_4 (a2.toNat * 4))] (Bx h0_1 64 [h0_2, h0_3] :: OwnS 67 4 h0_2 (r8.map cTiiiiu32) :: Bx b0_ 43 [.pointer (some ⟨h0_1, 0, none⟩), h0_4] :: OwnS 79 2 h0_3 (a0.1.2.map cTii) :: SN 48 4 nT48 h0_4 hs54 (y62) :: L) a w) ?_ ?_ | refine TC.cutX (fun a w => Mid 178 B [(8, ptr h0_4 (a1.toNat * 4)), (9, ptr h0_4 (a2.toNat * 4))] (Bx h0_1 64 [h0_2, h0_3] :: OwnS 67 4 h0_2 (r8.map cTiiiiu32) :: Bx b0_ 43 [.pointer (some ⟨h0_1, 0, none⟩), h0_4] :: OwnS 79 2 h0_3 (a0.1.2.map cTii) :: SN 48 4 nT48 h0_4 hs54 (y62) :: L) a w) ?_ ?_
          · obtain ⟨xq61_3_1, hxq61_3_2, hj63⟩ := bind_some hj63
            obtain ⟨xq61_20_1, hxq61_20_2, hj63⟩ := bind_some hj63
            obtain ⟨yq61_21_4, hyq61_21_5, hj63⟩ := bind_some hj63
            obtain ⟨xq61_22_1, hxq61_22_2, hj63⟩ := bind_some hj63
            obtain ⟨yq61_23_4, hyq61_23_5, hj63⟩ := bind_some hj63
            refine TC.region_any (Bx h0_1 64 [h0_2, h0_3] :: OwnS 67 4 h0_2 (r8.map cTiiiiu32) :: Bx b0_ 43 [.pointer (some ⟨h0_1, 0, none⟩), h0_4] :: OwnS 79 2 h0_3 (a0.1.2.map cTii) :: SN 48 4 nT48 h0_4 hs54 (y53) :: L) 21 24 kfollows_mixedOrders_true rfl ?_
            refine TA.takeW 0 rfl rfl rfl rfl (StepS.move rfl) (by kernel_rfl) (by kernel_rfl) (by kernel_rfl) rfl (.inr (fun _ s => s)) ?_
            refine TA.takeW 1 rfl rfl rfl rfl (StepS.nilc rfl) (by kernel_rfl) (by kernel_rfl) (by kernel_rfl) rfl (.inr (fun _ s => s)) ?_
            refine TA.takeW 2 rfl rfl rfl rfl (StepS.ptrf rfl kfieldB_48_2_2_true) (by kernel_rfl) (by kernel_rfl) (by kernel_rfl) rfl (.inr (fun _ s => s)) ?_
            refine TA.take 3 rfl rfl rfl rfl (StepS.ldN (j := 2) rfl (Ent.at 4 rfl) kscalB_24_true hxq61_3_2 rfl rfl) (by kernel_rfl) (by kernel_rfl) (by kernel_rfl) (by kernel_rfl) (by kernel_rfl) (fun _ s => s) ?_
            refine TA.takeW 4 rfl rfl rfl rfl (StepS.move rfl) (by kernel_rfl) (by kernel_rfl) (by kernel_rfl) rfl (.inr (fun _ s => s)) ?_
            refine TA.takeW 5 rfl rfl rfl rfl (StepS.move rfl) (by kernel_rfl) (by kernel_rfl) (by kernel_rfl) rfl (.inr (fun _ s => s)) ?_
            refine TA.takeW 6 rfl rfl rfl rfl (StepS.nilc rfl) (by kernel_rfl) (by kernel_rfl) (by kernel_rfl) rfl (.inr (fun _ s => s)) ?_
            refine TA.takeW 7 rfl rfl rfl rfl (StepS.ptrf rfl kfieldB_48_3_3_true) (by kernel_rfl) (by kernel_rfl) (by kernel_rfl) rfl (.inr (fun _ s => s)) ?_
            refine TA.take 8 rfl rfl rfl rfl (StepS.ldN (j := 3) rfl (Ent.at 4 rfl) kscalB_24_true hxq61_3_2 rfl rfl) (by kernel_rfl) (by kernel_rfl) (by kernel_rfl) (by kernel_rfl) (by kernel_rfl) (fun _ s => s) ?_
            refine TA.takeW 9 rfl rfl rfl rfl (StepS.move rfl) (by kernel_rfl) (by kernel_rfl) (by kernel_rfl) rfl (.inr (fun _ s => s)) ?_
            refine TA.takeW 10 rfl rfl rfl rfl (StepS.move rfl) (by kernel_rfl) (by kernel_rfl) (by kernel_rfl) rfl (.inr (fun _ s => s)) ?_
            refine TA.takeW 11 rfl rfl rfl rfl (StepS.nilc rfl) (by kernel_rfl) (by kernel_rfl) (by kernel_rfl) rfl (.inr (fun _ s => s)) ?_
            refine TA.takeW 12 rfl rfl rfl rfl (StepS.ptrf rfl kfieldB_48_0_0_true) (by kernel_rfl) (by kernel_rfl) (by kernel_rfl) rfl (.inr (fun _ s => s)) ?_
            refine TA.take 13 rfl rfl rfl rfl (StepS.ldN (j := 0) rfl (Ent.at 4 rfl) kscalB_36_true hxq61_3_2 rfl rfl) (by kernel_rfl) (by kernel_rfl) (by kernel_rfl) (by kernel_rfl) (by kernel_rfl) (fun _ s => s) ?_
            refine TA.take 14 rfl rfl rfl rfl (StepS.lenm rfl (OwnS.rd (SN.piece (Ent.at 4 rfl) hxq61_3_2 0 rfl)) ksliceB_36_52_2_true rfl) (by kernel_rfl) (by kernel_rfl) (by kernel_rfl) (by kernel_rfl) (by kernel_rfl) (fun _ s => s) ?_
            refine TA.takeW 15 rfl rfl rfl rfl (StepS.move rfl) (by kernel_rfl) (by kernel_rfl) (by kernel_rfl) rfl (.inr (fun _ s => s)) ?_
            refine TA.takeW 16 rfl rfl rfl rfl (StepS.nilc rfl) (by kernel_rfl) (by kernel_rfl) (by kernel_rfl) rfl (.inr (fun _ s => s)) ?_
            refine TA.takeW 17 rfl rfl rfl rfl (StepS.ptrf rfl kfieldB_48_0_0_true) (by kernel_rfl) (by kernel_rfl) (by kernel_rfl) rfl (.inr (fun _ s => s)) ?_
            refine TA.take 18 rfl rfl rfl rfl (StepS.ldN (j := 0) rfl (Ent.at 4 rfl) kscalB_36_true hxq61_3_2 rfl rfl) (by kernel_rfl) (by kernel_rfl) (by kernel_rfl) (by kernel_rfl) (by kernel_rfl) (fun _ s => s) ?_
            refine TA.take 20 rfl rfl rfl rfl (StepS.idx rfl rfl (OwnS.rd (SN.piece (Ent.at 4 rfl) hxq61_3_2 1 rfl)) ksliceB_24_3_1_true (idx_spec hxq61_20_2).1 (idxm_lt hxq61_20_2)) (by kernel_rfl) (by kernel_rfl) (by kernel_rfl) (by kernel_rfl) (by kernel_rfl) (fun _ s => s) ?_
            refine TA.all2 (i := 19) (j := 21) (by kernel_rfl) ?_ ?_
            · refine TB.of rfl ?_
              refine TO.s rfl rfl rfl (StepS.lenm rfl (OwnS.rd (SN.piece (Ent.at 4 rfl) hxq61_3_2 0 rfl)) ksliceB_36_52_2_true rfl) ?_
              refine TA.back (.inr (fun _ s => s)) ?_
              refine TA.asL (L' := (Bx h0_1 64 [h0_2, h0_3] :: OwnS 67 4 h0_2 (r8.map cTiiiiu32) :: Bx b0_ 43 [.pointer (some ⟨h0_1, 0, none⟩), h0_4] :: OwnS 79 2 h0_3 (a0.1.2.map cTii) :: SN 48 4 nT48 h0_4 hs54 (y53) :: L)) (listed' := #[true, true, true, true, true, true, true, true, true, true, true, true, true, true, true, true, true, true, true, true, true, false, false, false]) (by kernel_rfl) (by kernel_rfl) ?_
              refine TA.all1 (i := 21) (by kernel_rfl) ?_
              refine TB.of rfl ?_
              refine TO.ghost (fun _ s => Sat.front 4 rfl s) ?_
              refine TO.openN (L' := (OwnS 52 2 (cv (gr hs54 a1.toNat) 0) (xq61_3_1.1.map cTii) :: OwnS 3 1 (cv (gr hs54 a1.toNat) 1) (xq61_3_1.2.2.1.map cI) :: OwnS 3 1 (cv (gr hs54 a1.toNat) 2) (xq61_3_1.2.2.2.map cI) :: SNh 48 4 nT48 h0_4 hs54 (y53) a1.toNat [(cv (gr hs54 a1.toNat) 0), I xq61_3_1.2.1, (cv (gr hs54 a1.toNat) 1), (cv (gr hs54 a1.toNat) 2)] :: Bx h0_1 64 [h0_2, h0_3] :: OwnS 67 4 h0_2 (r8.map cTiiiiu32) :: Bx b0_ 43 [.pointer (some ⟨h0_1, 0, none⟩), h0_4] :: OwnS 79 2 h0_3 (a0.1.2.map cTii) :: L)) rfl hxq61_3_2 rfl ?_
              refine TO.stO (i := a2.toNat) (off := 0) (us := [I (xq61_3_1.1.length : Int)]) 1 (xq61_3_1.1.length : Int) rfl rfl rfl ksizeB_3_1_true rfl rfl rfl (idx_spec hxq61_20_2).2 rfl (by simp [Value.oneCell']) rfl ?_
              refine TO.ghost (fun _ s => Sat.front 3 rfl s) ?_
              refine TO.ghost (fun _ s => Sat.front 3 rfl s) ?_
              refine TO.ghost (fun _ s => Sat.front 3 rfl s) ?_
              refine TO.ghost (fun _ s => Sat.front 3 rfl s) ?_
              refine TO.closeNs (T := nT48) (cs := [(cv (gr hs54 a1.toNat) 0), I xq61_3_1.2.1, (cv (gr hs54 a1.toNat) 1), (cv (gr hs54 a1.toNat) 2)]) (xq61_3_1.1, xq61_3_1.2.1, xq61_3_1.2.2.1.set a2.toNat (xq61_3_1.1.length : Int), xq61_3_1.2.2.2) rfl rfl hxq61_3_2 hyq61_21_5 ?_
              refine TA.back (.inl (by kernel_rfl)) ?_
              refine TA.asL (L' := (SN 48 4 nT48 h0_4 hs54 (yq61_21_4) :: Bx h0_1 64 [h0_2, h0_3] :: OwnS 67 4 h0_2 (r8.map cTiiiiu32) :: Bx b0_ 43 [.pointer (some ⟨h0_1, 0, none⟩), h0_4] :: OwnS 79 2 h0_3 (a0.1.2.map cTii) :: L)) (listed' := #[true, true, true, true, true, true, true, true, true, true, true, true, true, true, true, true, true, true, true, true, true, true, false, false]) (by kernel_rfl) (by kernel_rfl) ?_
              refine TA.all1 (i := 22) (by kernel_rfl) ?_
              refine TB.of rfl ?_
              refine TO.s rfl rfl rfl (StepS.idx rfl rfl (OwnS.rd (SN.piece (Ent.at 0 rfl) (idx_seto hxq61_3_2 hyq61_21_5) 2 rfl)) ksliceB_24_3_1_true (idx_spec hxq61_22_2).1 (idxm_lt hxq61_22_2)) ?_
              refine TA.back (.inl (by kernel_rfl)) ?_
              refine TA.asL (L' := (SN 48 4 nT48 h0_4 hs54 (yq61_21_4) :: Bx h0_1 64 [h0_2, h0_3] :: OwnS 67 4 h0_2 (r8.map cTiiiiu32) :: Bx b0_ 43 [.pointer (some ⟨h0_1, 0, none⟩), h0_4] :: OwnS 79 2 h0_3 (a0.1.2.map cTii) :: L)) (listed' := #[true, true, true, true, true, true, true, true, true, true, true, true, true, true, true, true, true, true, true, true, true, true, true, false]) (by kernel_rfl) (by kernel_rfl) ?_
              refine TA.all1 (i := 23) (by kernel_rfl) ?_
              refine TB.of rfl ?_
              refine TO.openN (L' := (OwnS 52 2 (cv (gr hs54 a1.toNat) 0) (((xq61_3_1.1, xq61_3_1.2.1, xq61_3_1.2.2.1.set a2.toNat (xq61_3_1.1.length : Int), xq61_3_1.2.2.2).1).map cTii) :: OwnS 3 1 (cv (gr hs54 a1.toNat) 1) (((xq61_3_1.1, xq61_3_1.2.1, xq61_3_1.2.2.1.set a2.toNat (xq61_3_1.1.length : Int), xq61_3_1.2.2.2).2.2.1).map cI) :: OwnS 3 1 (cv (gr hs54 a1.toNat) 2) (((xq61_3_1.1, xq61_3_1.2.1, xq61_3_1.2.2.1.set a2.toNat (xq61_3_1.1.length : Int), xq61_3_1.2.2.2).2.2.2).map cI) :: SNh 48 4 nT48 h0_4 hs54 (yq61_21_4) a1.toNat [(cv (gr hs54 a1.toNat) 0), I ((xq61_3_1.1, xq61_3_1.2.1, xq61_3_1.2.2.1.set a2.toNat (xq61_3_1.1.length : Int), xq61_3_1.2.2.2).2.1), (cv (gr hs54 a1.toNat) 1), (cv (gr hs54 a1.toNat) 2)] :: Bx h0_1 64 [h0_2, h0_3] :: OwnS 67 4 h0_2 (r8.map cTiiiiu32) :: Bx b0_ 43 [.pointer (some ⟨h0_1, 0, none⟩), h0_4] :: OwnS 79 2 h0_3 (a0.1.2.map cTii) :: L)) rfl (idx_seto hxq61_3_2 hyq61_21_5) rfl ?_
              refine TO.stO (i := a2.toNat) (off := 0) (us := [I (xq61_3_1.1.length : Int)]) 2 (xq61_3_1.1.length : Int) rfl rfl rfl ksizeB_3_1_true rfl rfl rfl (idx_spec hxq61_22_2).2 rfl (by simp [Value.oneCell']) rfl ?_
              refine TO.ghost (fun _ s => Sat.front 3 rfl s) ?_
              refine TO.ghost (fun _ s => Sat.front 3 rfl s) ?_
              refine TO.ghost (fun _ s => Sat.front 3 rfl s) ?_
              refine TO.ghost (fun _ s => Sat.front 3 rfl s) ?_
              refine TO.closeNs (T := nT48) (cs := [(cv (gr hs54 a1.toNat) 0), I ((xq61_3_1.1, xq61_3_1.2.1, xq61_3_1.2.2.1.set a2.toNat (xq61_3_1.1.length : Int), xq61_3_1.2.2.2).2.1), (cv (gr hs54 a1.toNat) 1), (cv (gr hs54 a1.toNat) 2)]) ((xq61_3_1.1, xq61_3_1.2.1, xq61_3_1.2.2.1.set a2.toNat (xq61_3_1.1.length : Int), xq61_3_1.2.2.2).1, (xq61_3_1.1, xq61_3_1.2.1, xq61_3_1.2.2.1.set a2.toNat (xq61_3_1.1.length : Int), xq61_3_1.2.2.2).2.1, (xq61_3_1.1, xq61_3_1.2.1, xq61_3_1.2.2.1.set a2.toNat (xq61_3_1.1.length : Int), xq61_3_1.2.2.2).2.2.1, ((xq61_3_1.1, xq61_3_1.2.1, xq61_3_1.2.2.1.set a2.toNat (xq61_3_1.1.length : Int), xq61_3_1.2.2.2).2.2.2).set a2.toNat (xq61_3_1.1.length : Int)) rfl rfl (idx_seto hxq61_3_2 hyq61_21_5) hyq61_23_5 ?_
              refine TA.back (.inl (by kernel_rfl)) ?_
              refine TA.asL (L' := (SN 48 4 nT48 h0_4 hs54 (yq61_23_4) :: Bx h0_1 64 [h0_2, h0_3] :: OwnS 67 4 h0_2 (r8.map cTiiiiu32) :: Bx b0_ 43 [.pointer (some ⟨h0_1, 0, none⟩), h0_4] :: OwnS 79 2 h0_3 (a0.1.2.map cTii) :: L)) (listed' := #[true, true, true, true, true, true, true, true, true, true, true, true, true, true, true, true, true, true, true, true, true, true, true, true]) (by kernel_rfl) (by kernel_rfl) ?_
              cases hj63
              refine TA.nil (by kernel_rfl) fun a w e s => ?_
              exact ⟨e.sub (lk_of_allIn ⟨rfl, rfl, trivial⟩), s.mono fun _ s => (by exact Sat.by [0, 4, 4, 4, 4] 5 0 (by kernel_rfl) s)⟩
            · refine TB.of rfl ?_
              refine TO.ghost (fun _ s => Sat.front 4 rfl s) ?_
              refine TO.openN (L' := (OwnS 52 2 (cv (gr hs54 a1.toNat) 0) (xq61_3_1.1.map cTii) :: OwnS 3 1 (cv (gr hs54 a1.toNat) 1) (xq61_3_1.2.2.1.map cI) :: OwnS 3 1 (cv (gr hs54 a1.toNat) 2) (xq61_3_1.2.2.2.map cI) :: SNh 48 4 nT48 h0_4 hs54 (y53) a1.toNat [(cv (gr hs54 a1.toNat) 0), I xq61_3_1.2.1, (cv (gr hs54 a1.toNat) 1), (cv (gr hs54 a1.toNat) 2)] :: Bx h0_1 64 [h0_2, h0_3] :: OwnS 67 4 h0_2 (r8.map cTiiiiu32) :: Bx b0_ 43 [.pointer (some ⟨h0_1, 0, none⟩), h0_4] :: OwnS 79 2 h0_3 (a0.1.2.map cTii) :: L)) rfl hxq61_3_2 rfl ?_
              refine TO.stO (i := a2.toNat) (off := 0) (us := [I (xq61_3_1.1.length : Int)]) 1 (xq61_3_1.1.length : Int) rfl rfl rfl ksizeB_3_1_true rfl rfl rfl (idx_spec hxq61_20_2).2 rfl (by simp [Value.oneCell']) rfl ?_
              refine TO.ghost (fun _ s => Sat.front 3 rfl s) ?_
              refine TO.ghost (fun _ s => Sat.front 3 rfl s) ?_
              refine TO.ghost (fun _ s => Sat.front 3 rfl s) ?_
              refine TO.ghost (fun _ s => Sat.front 3 rfl s) ?_
              refine TO.closeNs (T := nT48) (cs := [(cv (gr hs54 a1.toNat) 0), I xq61_3_1.2.1, (cv (gr hs54 a1.toNat) 1), (cv (gr hs54 a1.toNat) 2)]) (xq61_3_1.1, xq61_3_1.2.1, xq61_3_1.2.2.1.set a2.toNat (xq61_3_1.1.length : Int), xq61_3_1.2.2.2) rfl rfl hxq61_3_2 hyq61_21_5 ?_
              refine TA.back (.inl (by kernel_rfl)) ?_
              refine TA.asL (L' := (SN 48 4 nT48 h0_4 hs54 (yq61_21_4) :: Bx h0_1 64 [h0_2, h0_3] :: OwnS 67 4 h0_2 (r8.map cTiiiiu32) :: Bx b0_ 43 [.pointer (some ⟨h0_1, 0, none⟩), h0_4] :: OwnS 79 2 h0_3 (a0.1.2.map cTii) :: L)) (listed' := #[true, true, true, true, true, true, true, true, true, true, true, true, true, true, true, true, true, true, true, false, true, true, false, false]) (by kernel_rfl) (by kernel_rfl) ?_
              refine TA.all1 (i := 19) (by kernel_rfl) ?_
              refine TB.of rfl ?_
              refine TO.s rfl rfl rfl (StepS.lenm rfl (OwnS.rd (SN.piece (Ent.at 0 rfl) (idx_seto hxq61_3_2 hyq61_21_5) 0 rfl)) ksliceB_36_52_2_true rfl) ?_
              refine TA.back (.inl (by kernel_rfl)) ?_
              refine TA.asL (L' := (SN 48 4 nT48 h0_4 hs54 (yq61_21_4) :: Bx h0_1 64 [h0_2, h0_3] :: OwnS 67 4 h0_2 (r8.map cTiiiiu32) :: Bx b0_ 43 [.pointer (some ⟨h0_1, 0, none⟩), h0_4] :: OwnS 79 2 h0_3 (a0.1.2.map cTii) :: L)) (listed' := #[true, true, true, true, true, true, true, true, true, true, true, true, true, true, true, true, true, true, true, true, true, true, false, false]) (by kernel_rfl) (by kernel_rfl) ?_
              refine TA.all1 (i := 22) (by kernel_rfl) ?_
              refine TB.of rfl ?_
              refine TO.s rfl rfl rfl (StepS.idx rfl rfl (OwnS.rd (SN.piece (Ent.at 0 rfl) (idx_seto hxq61_3_2 hyq61_21_5) 2 rfl)) ksliceB_24_3_1_true (idx_spec hxq61_22_2).1 (idxm_lt hxq61_22_2)) ?_
              refine TA.back (.inl (by kernel_rfl)) ?_
              refine TA.asL (L' := (SN 48 4 nT48 h0_4 hs54 (yq61_21_4) :: Bx h0_1 64 [h0_2, h0_3] :: OwnS 67 4 h0_2 (r8.map cTiiiiu32) :: Bx b0_ 43 [.pointer (some ⟨h0_1, 0, none⟩), h0_4] :: OwnS 79 2 h0_3 (a0.1.2.map cTii) :: L)) (listed' := #[true, true, true, true, true, true, true, true, true, true, true, true, true, true, true, true, true, true, true, true, true, true, true, false]) (by kernel_rfl) (by kernel_rfl) ?_
              refine TA.all1 (i := 23) (by kernel_rfl) ?_
              refine TB.of rfl ?_
              refine TO.openN (L' := (OwnS 52 2 (cv (gr hs54 a1.toNat) 0) (((xq61_3_1.1, xq61_3_1.2.1, xq61_3_1.2.2.1.set a2.toNat (xq61_3_1.1.length : Int), xq61_3_1.2.2.2).1).map cTii) :: OwnS 3 1 (cv (gr hs54 a1.toNat) 1) (((xq61_3_1.1, xq61_3_1.2.1, xq61_3_1.2.2.1.set a2.toNat (xq61_3_1.1.length : Int), xq61_3_1.2.2.2).2.2.1).map cI) :: OwnS 3 1 (cv (gr hs54 a1.toNat) 2) (((xq61_3_1.1, xq61_3_1.2.1, xq61_3_1.2.2.1.set a2.toNat (xq61_3_1.1.length : Int), xq61_3_1.2.2.2).2.2.2).map cI) :: SNh 48 4 nT48 h0_4 hs54 (yq61_21_4) a1.toNat [(cv (gr hs54 a1.toNat) 0), I ((xq61_3_1.1, xq61_3_1.2.1, xq61_3_1.2.2.1.set a2.toNat (xq61_3_1.1.length : Int), xq61_3_1.2.2.2).2.1), (cv (gr hs54 a1.toNat) 1), (cv (gr hs54 a1.toNat) 2)] :: Bx h0_1 64 [h0_2, h0_3] :: OwnS 67 4 h0_2 (r8.map cTiiiiu32) :: Bx b0_ 43 [.pointer (some ⟨h0_1, 0, none⟩), h0_4] :: OwnS 79 2 h0_3 (a0.1.2.map cTii) :: L)) rfl (idx_seto hxq61_3_2 hyq61_21_5) rfl ?_
              refine TO.stO (i := a2.toNat) (off := 0) (us := [I (xq61_3_1.1.length : Int)]) 2 (xq61_3_1.1.length : Int) rfl rfl rfl ksizeB_3_1_true rfl rfl rfl (idx_spec hxq61_22_2).2 rfl (by simp [Value.oneCell']) rfl ?_
              refine TO.ghost (fun _ s => Sat.front 3 rfl s) ?_
              refine TO.ghost (fun _ s => Sat.front 3 rfl s) ?_
              refine TO.ghost (fun _ s => Sat.front 3 rfl s) ?_
              refine TO.ghost (fun _ s => Sat.front 3 rfl s) ?_
              refine TO.closeNs (T := nT48) (cs := [(cv (gr hs54 a1.toNat) 0), I ((xq61_3_1.1, xq61_3_1.2.1, xq61_3_1.2.2.1.set a2.toNat (xq61_3_1.1.length : Int), xq61_3_1.2.2.2).2.1), (cv (gr hs54 a1.toNat) 1), (cv (gr hs54 a1.toNat) 2)]) ((xq61_3_1.1, xq61_3_1.2.1, xq61_3_1.2.2.1.set a2.toNat (xq61_3_1.1.length : Int), xq61_3_1.2.2.2).1, (xq61_3_1.1, xq61_3_1.2.1, xq61_3_1.2.2.1.set a2.toNat (xq61_3_1.1.length : Int), xq61_3_1.2.2.2).2.1, (xq61_3_1.1, xq61_3_1.2.1, xq61_3_1.2.2.1.set a2.toNat (xq61_3_1.1.length : Int), xq61_3_1.2.2.2).2.2.1, ((xq61_3_1.1, xq61_3_1.2.1, xq61_3_1.2.2.1.set a2.toNat (xq61_3_1.1.length : Int), xq61_3_1.2.2.2).2.2.2).set a2.toNat (xq61_3_1.1.length : Int)) rfl rfl (idx_seto hxq61_3_2 hyq61_21_5) hyq61_23_5 ?_
              refine TA.back (.inl (by kernel_rfl)) ?_
              refine TA.asL (L' := (SN 48 4 nT48 h0_4 hs54 (yq61_23_4) :: Bx h0_1 64 [h0_2, h0_3] :: OwnS 67 4 h0_2 (r8.map cTiiiiu32) :: Bx b0_ 43 [.pointer (some ⟨h0_1, 0, none⟩), h0_4] :: OwnS 79 2 h0_3 (a0.1.2.map cTii) :: L)) (listed' := #[true, true, true, true, true, true, true, true, true, true, true, true, true, true, true, true, true, true, true, true, true, true, true, true]) (by kernel_rfl) (by kernel_rfl) ?_
              cases hj63
              refine TA.nil (by kernel_rfl) fun a w e s => ?_
              exact ⟨e.sub (lk_of_allIn ⟨rfl, rfl, trivial⟩), s.mono fun _ s => (by exact Sat.by [0, 4, 4, 4, 4] 5 0 (by kernel_rfl) s)⟩
          · intro a w ⟨he, hs⟩
            refine TC.use ?_ he hs
            refine TC.k ?_
            refine TC.region_tail 18 kfollows_mixedOrders_true (by kernel_rfl) ?_
            refine TS.s rfl rfl rfl (StepS.move rfl) ?_
            refine TS.s rfl rfl rfl (StepS.move rfl) ?_
            refine TS.s rfl rfl rfl (StepS.nilc rfl) ?_
            refine TS.s rfl rfl rfl (StepS.ptrf rfl kfieldB_48_1_1_true) ?_
            obtain ⟨x64, hx65, hm⟩ := bind_some hm
            refine TS.s rfl rfl rfl (StepS.ldN (j := 1) rfl (Ent.at 4 rfl) kscalB_3_true hx65 rfl rfl) ?_
            refine TS.s rfl rfl rfl (StepS.move rfl) ?_
            refine TS.s rfl rfl rfl (StepS.nilc rfl) ?_
            refine TS.s rfl rfl rfl (StepS.ptrf rfl kfieldB_48_1_1_true) ?_
            obtain ⟨x66, hx67, hm⟩ := bind_some hm
            refine TS.s rfl rfl rfl (StepS.ldN (j := 1) rfl (Ent.at 4 rfl) kscalB_3_true hx67 rfl rfl) ?_
            refine TS.s rfl rfl rfl (StepS.move rfl) ?_
            refine TS.s rfl rfl rfl (StepS.nilc rfl) ?_
            refine TS.s rfl rfl rfl (StepS.ptrf rfl kfieldB_48_0_0_true) ?_
            refine TS.s rfl rfl rfl (StepS.ldN (j := 0) rfl (Ent.at 4 rfl) kscalB_36_true hx67 rfl rfl) ?_
            refine TS.s rfl rfl rfl (StepS.lenm rfl (OwnS.rd (SN.piece (Ent.at 4 rfl) hx67 0 rfl)) ksliceB_36_52_2_true rfl) ?_
            refine TS.s rfl rfl rfl (StepS.min2 rfl rfl) ?_
            refine TS.s rfl rfl rfl (StepS.max2 rfl rfl) ?_
            refine TS.s rfl rfl rfl (StepS.nilc rfl) ?_
            refine TS.s rfl rfl rfl (StepS.ptrf rfl kfieldB_48_1_1_true) ?_
            refine TS.nil ?_
            refine TO.at ?_
            refine TO.ghost (fun _ s => Sat.front 4 rfl s) ?_
            refine TO.openN (L' := (OwnS 52 2 (cv (gr hs54 a2.toNat) 0) (x64.1.map cTii) :: OwnS 3 1 (cv (gr hs54 a2.toNat) 1) (x64.2.2.1.map cI) :: OwnS 3 1 (cv (gr hs54 a2.toNat) 2) (x64.2.2.2.map cI) :: SNh 48 4 nT48 h0_4 hs54 (y62) a2.toNat [(cv (gr hs54 a2.toNat) 0), I x64.2.1, (cv (gr hs54 a2.toNat) 1), (cv (gr hs54 a2.toNat) 2)] :: Bx h0_1 64 [h0_2, h0_3] :: OwnS 67 4 h0_2 (r8.map cTiiiiu32) :: Bx b0_ 43 [.pointer (some ⟨h0_1, 0, none⟩), h0_4] :: OwnS 79 2 h0_3 (a0.1.2.map cTii) :: L)) rfl hx65 rfl ?_
            refine TO.ghost (fun _ s => Sat.front 3 rfl s) ?_
            refine TO.stNh (i := a2) (off := 1) (us := [I (mx x64.2.1 (mn x66.2.1 (x66.1.length : Int)))]) (cs' := [(cv (gr hs54 a2.toNat) 0), I (mx x64.2.1 (mn x66.2.1 (x66.1.length : Int))), (cv (gr hs54 a2.toNat) 1), (cv (gr hs54 a2.toNat) 2)]) rfl rfl ksizeB_3_1_true rfl rfl rfl hx65 rfl (by simp [Value.oneCell']) rfl ?_
            refine TO.ghost (fun _ s => Sat.front 3 rfl s) ?_
            refine TO.ghost (fun _ s => Sat.front 3 rfl s) ?_
            refine TO.ghost (fun _ s => Sat.front 3 rfl s) ?_
            obtain ⟨y72, hy73, hm⟩ := bind_some hm
            refine TO.closeN (T := nT48) (cs := [(cv (gr hs54 a2.toNat) 0), I (mx x64.2.1 (mn x66.2.1 (x66.1.length : Int))), (cv (gr hs54 a2.toNat) 1), (cv (gr hs54 a2.toNat) 2)]) [(cv (gr hs54 a2.toNat) 0), (cv (gr hs54 a2.toNat) 1), (cv (gr hs54 a2.toNat) 2)] (x64.1, mx x64.2.1 (mn x66.2.1 (x66.1.length : Int)), x64.2.2.1, x64.2.2.2) rfl rfl hx65 (Option.some.inj hy73) fun hs71 => ?_
            refine TO.code ?_
            refine TC.k ?_
            refine TC.region ?_
            refine TO.s rfl rfl rfl (StepS.assign rfl) ?_
            refine TO.code ?_
            cases hm
            refine TC.ret fun a w e s => ?_
            refine FRet.mk1 (P := Try.prog) (fn := Try.f21) (t := 6) e rfl rfl ?_
            refine ⟨_, _, rfl, ⟨(hs71), rfl, rfl⟩, ?_⟩
            refine s.mono fun _ s => ?_
            exact Sat.by [0, 4, 3, 3, 4] 5 0 (by kernel_rfl) s
      · rintro r rfl
        exact fun a w h => h.elim

set_option maxRecDepth 100000 in
theorem C22 {B : World} {L : List HP} {a0 : ((List (Int × Int × Int × BitVec 32)) × List (Int × Int)) × List ((List (Int × Int)) × Int × (List Int) × List Int)} {a1 : Int} {b0_ : Nat} {h0_1 : Nat} {h0_2 : Value} {h0_3 : Value} {h0_4 : Value} {h0_5 : List (List Value)} {r0 : Int} {s0 : ((List (Int × Int × Int × BitVec 32)) × List (Int × Int)) × List ((List (Int × Int)) × Int × (List Int) × List Int)} (hm : F22 a0 a1 = some (r0, s0)) {w : World} (st : St B (Bx b0_ 43 [.pointer (some ⟨h0_1, 0, none⟩), h0_4] :: Bx h0_1 64 [h0_2, h0_3] :: OwnS 67 4 h0_2 (a0.1.1.map cTiiiiu32) :: OwnS 79 2 h0_3 (a0.1.2.map cTii) :: SN 48 4 nT48 h0_4 h0_5 (a0.2) :: L) w) : Calls Try.prog 22 #[.pointer (some ⟨b0_, 0, none⟩), I a1] w (fun e w' => ∃ v M, e = .returned v ∧ (∃ (qhs1 : List (List Value)), v = I r0 ∧ M = (Bx b0_ 43 [.pointer (some ⟨h0_1, 0, none⟩), h0_4] :: Bx h0_1 64 [h0_2, h0_3] :: OwnS 67 4 h0_2 (s0.1.1.map cTiiiiu32) :: OwnS 79 2 h0_3 (s0.1.2.map cTii) :: SN 48 4 nT48 h0_4 qhs1 (s0.2) :: L)) ∧ St B M w') := by
  refine calls_of (N := 87) (L := (Bx b0_ 43 [.pointer (some ⟨h0_1, 0, none⟩), h0_4] :: Bx h0_1 64 [h0_2, h0_3] :: OwnS 67 4 h0_2 (a0.1.1.map cTiiiiu32) :: OwnS 79 2 h0_3 (a0.1.2.map cTii) :: SN 48 4 nT48 h0_4 h0_5 (a0.2) :: L)) (args := [.pointer (some ⟨b0_, 0, none⟩), I a1]) Try.func22 rfl rfl rfl ?_ st
  dsimp only [F22] at hm
  refine TC.k ?_
  refine TC.region ?_
  refine TO.s rfl rfl rfl (StepS.assign rfl) ?_
  refine TO.code ?_
  refine TC.k ?_
  refine TC.k ?_
  refine TC.region ?_
  refine TO.s rfl rfl rfl (StepS.move rfl) ?_
  refine TO.s rfl rfl rfl (StepS.nilc rfl) ?_
  refine TO.s rfl rfl rfl (StepS.fld rfl kfieldB_43_0_0_true) ?_
  refine TO.s rfl rfl rfl (StepS.ldB rfl (Ent.at 0 rfl) kscalB_39_true rfl) ?_
  refine TO.s rfl rfl rfl (StepS.move rfl) ?_
  obtain ⟨r7, hc8, hm⟩ := bind_some hm
  refine TO.q rfl rfl rfl (StepQ.call kcallB_13_true rfl rfl (fun _ st => C13 (Ent.at 1 rfl) (OwnS.rd (Ent.at 2 rfl)) (OwnS.rd (Ent.at 3 rfl)) hc8 st)) ?_
  refine TO.s rfl rfl rfl (StepS.cmp rfl rfl rfl) ?_
  refine TO.code ?_
  refine TC.cond rfl (fun hc9 => ?_) (fun hc9 => ?_)
  · replace hm := cond_t hc9 hm
    refine TC.k ?_
    refine TC.region ?_
    refine TO.s rfl rfl rfl (StepS.assign rfl) ?_
    refine TO.code ?_
    cases hm
    refine TC.ret fun a w e s => ?_
    refine FRet.mk1 (P := Try.prog) (fn := Try.f22) (t := 4) e rfl rfl ?_
    refine ⟨_, _, rfl, ⟨(h0_5), rfl, rfl⟩, ?_⟩
    refine s.mono fun _ s => ?_
    exact Sat.by [4, 4, 4, 4, 4] 5 0 (by kernel_rfl) s
  · replace hm := cond_f hc9 hm
    refine TC.skipk ?_
    refine TC.k ?_
    refine TC.region ?_
    refine TO.s rfl rfl rfl (StepS.move rfl) ?_
    refine TO.s rfl rfl rfl (StepS.nilc rfl) ?_
    refine TO.s rfl rfl rfl (StepS.fld rfl kfieldB_43_1_1_true) ?_
    refine TO.s rfl rfl rfl (StepS.ldB rfl (Ent.at 0 rfl) kscalB_41_true rfl) ?_
    refine TO.s rfl rfl rfl (StepS.move rfl) ?_
    obtain ⟨x10, hx11, hm⟩ := bind_some hm
    refine TO.s rfl rfl rfl (StepS.idxN rfl rfl (Ent.at 4 rfl) ksliceB_41_48_4_true hx11) ?_
    refine TO.s rfl rfl rfl (StepS.assign rfl) ?_
    refine TO.code ?_
    refine TC.k ?_
    refine TC.k ?_
    refine TC.region ?_
    refine TO.s rfl rfl rfl (StepS.move rfl) ?_
    refine TO.s rfl rfl rfl (StepS.nilc rfl) ?_
    refine TO.s rfl rfl rfl (StepS.ptrf rfl kfieldB_48_0_0_true) ?_
    refine TO.s rfl rfl rfl (StepS.ldN (j := 0) rfl (Ent.at 4 rfl) kscalB_36_true hx11 rfl rfl) ?_
    refine TO.s rfl rfl rfl (StepS.lenm rfl (OwnS.rd (SN.piece (Ent.at 4 rfl) hx11 0 rfl)) ksliceB_36_52_2_true rfl) ?_
    refine TO.s rfl rfl rfl (StepS.assign rfl) ?_
    refine TO.code ?_
    obtain ⟨o14, hw15, hm⟩ := bind_some hm
    refine TC.loop hw15 (fun x12 => fun a w => Mid 87 B [(0, .pointer (some ⟨b0_, 0, none⟩)), (1, I a1), (5, ptr h0_4 (a1.toNat * 4)), (6, I x12)] (Bx b0_ 43 [.pointer (some ⟨h0_1, 0, none⟩), h0_4] :: Bx h0_1 64 [h0_2, h0_3] :: OwnS 67 4 h0_2 (a0.1.1.map cTiiiiu32) :: OwnS 79 2 h0_3 (a0.1.2.map cTii) :: SN 48 4 nT48 h0_4 h0_5 (a0.2) :: L) a w) (fun _ => fun a w => Mid 87 B [] (Bx b0_ 43 [.pointer (some ⟨h0_1, 0, none⟩), h0_4] :: Bx h0_1 64 [h0_2, h0_3] :: OwnS 67 4 h0_2 (a0.1.1.map cTiiiiu32) :: OwnS 79 2 h0_3 (a0.1.2.map cTii) :: SN 48 4 nT48 h0_4 h0_5 (a0.2) :: L) a w) (fun (r0, s0) => FRet Try.prog Try.f22 (fun e w' => ∃ v M, e = .returned v ∧ (∃ (qhs1 : List (List Value)), v = I r0 ∧ M = (Bx b0_ 43 [.pointer (some ⟨h0_1, 0, none⟩), h0_4] :: Bx h0_1 64 [h0_2, h0_3] :: OwnS 67 4 h0_2 (s0.1.1.map cTiiiiu32) :: OwnS 79 2 h0_3 (s0.1.2.map cTii) :: SN 48 4 nT48 h0_4 qhs1 (s0.2) :: L)) ∧ St B M w')) ?_ ?_ ?_ ?_
    · rintro x12 o14r hb16 a w ⟨he, hs⟩
      dsimp only [F22_L0] at hb16
      refine TC.use ?_ he hs
      refine TC.k ?_
      refine TC.k ?_
      refine TC.region ?_
      refine TO.s rfl rfl rfl (StepS.move rfl) ?_
      refine TO.s rfl rfl rfl (StepS.move rfl) ?_
      refine TO.s rfl rfl rfl (StepS.nilc rfl) ?_
      refine TO.s rfl rfl rfl (StepS.ptrf rfl kfieldB_48_1_1_true) ?_
      obtain ⟨x17, hx18, hb16⟩ := bind_some hb16
      refine TO.s rfl rfl rfl (StepS.ldN (j := 1) rfl (Ent.at 4 rfl) kscalB_3_true hx18 rfl rfl) ?_
      refine TO.s rfl rfl rfl (StepS.cmp rfl rfl rfl) ?_
      refine TO.code ?_
      refine TC.cond rfl (fun hc19 => ?_) (fun hc19 => ?_)
      · replace hb16 := cond_t hc19 hb16
        refine TC.skipk ?_
        refine TC.k ?_
        refine TC.block ?_
        refine TC.k ?_
        refine TC.region ?_
        refine TO.s rfl rfl rfl (StepS.assign rfl) ?_
        refine TO.code ?_
        refine TC.k ?_
        refine TC.k ?_
        refine TC.region ?_
        refine TO.s rfl rfl rfl (StepS.move rfl) ?_
        refine TO.s rfl rfl rfl (StepS.nilc rfl) ?_
        refine TO.s rfl rfl rfl (StepS.ptrf rfl kfieldB_48_2_2_true) ?_
        obtain ⟨x20, hx21, hb16⟩ := bind_some hb16
        refine TO.s rfl rfl rfl (StepS.ldN (j := 2) rfl (Ent.at 4 rfl) kscalB_24_true hx21 rfl rfl) ?_
        refine TO.s rfl rfl rfl (StepS.lenm rfl (OwnS.rd (SN.piece (Ent.at 4 rfl) hx21 1 rfl)) ksliceB_24_3_1_true rfl) ?_
        refine TO.s rfl rfl rfl (StepS.move rfl) ?_
        refine TO.code ?_
        obtain ⟨o27, hw28, hb16⟩ := bind_some hb16
        refine TC.loop hw28 (fun (x22, x23) => fun a w => Mid 87 B [(0, .pointer (some ⟨b0_, 0, none⟩)), (1, I a1), (5, ptr h0_4 (a1.toNat * 4)), (6, I x12), (7, I x22), (39, (cv (gr h0_5 a1.toNat) 1)), (40, I (x20.2.2.1.length : Int)), (41, I x23)] (Bx b0_ 43 [.pointer (some ⟨h0_1, 0, none⟩), h0_4] :: Bx h0_1 64 [h0_2, h0_3] :: OwnS 67 4 h0_2 (a0.1.1.map cTiiiiu32) :: OwnS 79 2 h0_3 (a0.1.2.map cTii) :: SN 48 4 nT48 h0_4 h0_5 (a0.2) :: L) a w) (fun x26 => fun a w => Mid 87 B [(0, .pointer (some ⟨b0_, 0, none⟩)), (1, I a1), (5, ptr h0_4 (a1.toNat * 4)), (6, I x12), (7, I x26)] (Bx b0_ 43 [.pointer (some ⟨h0_1, 0, none⟩), h0_4] :: Bx h0_1 64 [h0_2, h0_3] :: OwnS 67 4 h0_2 (a0.1.1.map cTiiiiu32) :: OwnS 79 2 h0_3 (a0.1.2.map cTii) :: SN 48 4 nT48 h0_4 h0_5 (a0.2) :: L) a w) (fun (_ : Unit) _ _ => False) ?_ ?_ ?_ ?_
        · rintro ⟨x22, x23⟩ o27r hb29 a w ⟨he, hs⟩
          dsimp only [F22_L1] at hb29
          refine TC.use ?_ he hs
          refine TC.k ?_
          refine TC.region ?_
          refine TO.s rfl rfl rfl (StepS.cmp rfl rfl rfl) ?_
          refine TO.code ?_
          refine TC.k ?_
          refine TC.cond rfl (fun hc30 => ?_) (fun hc30 => ?_)
          · replace hb29 := cond_t hc30 hb29
            refine TC.skipk ?_
            refine TC.k ?_
            obtain ⟨x31, hj32, hb29⟩ := bind_some hb29
            first | refine TC.cutM (fun a w => Mid 87 B [(0, .pointer (some ⟨b0_, 0, none⟩)), (1, I a1), (5, ptr h0_4 (a1.toNat * 4)), (6, I x12), (7, I x31), (39, (cv (gr h0_5 a1.toNat) 1)), (40, I (x20.2.2.1.length : Int)), (41, I x23)] (Bx b0_ 43 [.pointer (some ⟨h0_1, 0, none⟩), h0_4] :: Bx h0_1 64 [h0_2, h0_3] :: OwnS 67 4 h0_2 (a0.1.1.map cTiiiiu32) :: OwnS 79 2 h0_3 (a0.1.2.map cTii) :: SN 48 4 nT48 h0_4 h0_5 (a0.2) :: L) a w) ?_ ?_ | refine TC.cutX (fun a w => Mid 87 B [(0, .pointer (some ⟨b0_, 0, none⟩)), (1, I a1), (5, ptr h0_4 (a1.toNat * 4)), (6, I x12), (7, I x31), (39, (cv (gr h0_5 a1.toNat) 1)), (40, I (x20.2.2.1.length : Int)), (41, I x23)] (Bx b0_ 43 [.pointer (some ⟨h0_1, 0, none⟩), h0_4] :: Bx h0_1 64 [h0_2, h0_3] :: OwnS 67 4 h0_2 (a0.1.1.map cTiiiiu32) :: OwnS 79 2 h0_3 (a0.1.2.map cTii) :: SN 48 4 nT48 h0_4 h0_5 (a0.2) :: L) a w) ?_ ?_
            · refine TC.block ?_
              refine TC.k ?_
              refine TC.region ?_
              refine TO.s rfl rfl rfl (StepS.move rfl) ?_
              obtain ⟨x33, hx34, hj32⟩ := bind_some hj32
              refine TO.s rfl rfl rfl (StepS.idx rfl rfl (OwnS.rd (SN.piece (Ent.at 4 rfl) hx21 1 rfl)) ksliceB_24_3_1_true (idx_spec hx34).1 (idxm_lt hx34)) ?_
              refine TO.s rfl rfl rfl (StepS.ld0 rfl (OwnS.rd (SN.piece (Ent.at 4 rfl) hx21 1 rfl)) kscalB_3_true rfl (idxm hx34) rfl) ?_
              refine TO.s rfl rfl rfl (StepS.assign rfl) ?_
              refine TO.s rfl rfl rfl (StepS.assign rfl) ?_
              refine TO.code ?_
              refine TC.k ?_
              refine TC.region ?_
              refine TO.s rfl rfl rfl (StepS.move rfl) ?_
              refine TO.s rfl rfl rfl (StepS.move rfl) ?_
              refine TO.s rfl rfl rfl (StepS.cmp rfl rfl rfl) ?_
              refine TO.s rfl rfl rfl (StepS.move rfl) ?_
              refine TO.mid1 4 53 (.bool ((x23 != a1) && (decide (x33 ≥ x12)))) ?_ ?_
              · refine bcase ((x23 != a1)) (fun hb35 => ?_) (fun hb35 => ?_)
                · refine TO.sw rfl rfl rfl hb35 rfl rfl (StepS.move rfl) ?_
                  refine TO.sw rfl rfl rfl hb35 rfl rfl (StepS.move rfl) ?_
                  refine TO.sw rfl rfl rfl hb35 rfl rfl (StepS.cmp rfl rfl rfl) ?_
                  refine TO.s rfl rfl rfl (StepS.pickT rfl hb35 rfl) ?_
                  exact TO.up1 4 0 rfl rfl (by rw [hb35]; rfl) rfl
                · refine TO.skip rfl rfl rfl (skipF hb35) rfl rfl ?_
                  refine TO.skip rfl rfl rfl (skipF hb35) rfl rfl ?_
                  refine TO.skip rfl rfl rfl (skipF hb35) rfl rfl ?_
                  refine TO.s rfl rfl rfl (StepS.pickF rfl hb35 rfl) ?_
                  exact TO.up1 4 0 rfl rfl (by rw [hb35]; rfl) rfl
              refine TO.code ?_
              refine TC.cond rfl (fun hc36 => ?_) (fun hc36 => ?_)
              · replace hj32 := cond_t hc36 hj32
                refine TC.region ?_
                refine TO.s rfl rfl rfl (StepS.move rfl) ?_
                refine TO.s rfl rfl rfl (StepS.ari rfl rfl rfl) ?_
                refine TO.s rfl rfl rfl (StepS.assign rfl) ?_
                cases hj32
                refine TO.nil fun a w e s => ?_
                exact ⟨e.sub (lk_of_allIn ⟨rfl, rfl, rfl, rfl, rfl, rfl, rfl, rfl, trivial⟩), s⟩
              · replace hj32 := cond_f hc36 hj32
                cases hj32
                refine TC.skip fun a w e s => ?_
                exact ⟨e.sub (lk_of_allIn ⟨rfl, rfl, rfl, rfl, rfl, rfl, rfl, rfl, trivial⟩), s⟩
            · intro a w ⟨he, hs⟩
              refine TC.use ?_ he hs
              refine TC.region ?_
              refine TO.s rfl rfl rfl (StepS.ari rfl rfl rfl) ?_
              refine TO.s rfl rfl rfl (StepS.move rfl) ?_
              cases hb29
              refine TO.nil fun a w e s => ?_
              exact ⟨e.sub (lk_of_allIn ⟨rfl, rfl, rfl, rfl, rfl, rfl, rfl, rfl, trivial⟩), s⟩
          · replace hb29 := cond_f hc30 hb29
            cases hb29
            refine TC.exit rfl fun a w e s => ?_
            exact ⟨e.sub (lk_of_allIn ⟨rfl, rfl, rfl, rfl, rfl, trivial⟩), s⟩
        · exact fun a w e s => ⟨e.sub (lk_of_allIn ⟨rfl, rfl, rfl, rfl, rfl, rfl, rfl, rfl, trivial⟩), s⟩
        · rintro x26 rfl a w ⟨he, hs⟩
          dsimp only [Ctl.on] at hb16
          refine TC.use ?_ he hs
          refine TC.k ?_
          refine TC.region_quiet kfollows_mixedOrders_true (by kernel_rfl) ?_
          refine TQ.s rfl rfl rfl (StepS.move rfl).q ?_
          refine TQ.s rfl rfl rfl (StepS.ari rfl rfl rfl).q ?_
          refine TQ.s rfl rfl rfl (StepS.move rfl).q ?_
          refine TQ.s rfl rfl rfl (StepS.nilc rfl).q ?_
          refine TQ.s rfl rfl rfl (StepS.fld rfl kfieldB_43_1_1_true).q ?_
          refine TQ.s rfl rfl rfl (StepS.ldB rfl (Ent.at 0 rfl) kscalB_41_true rfl).q ?_
          refine TQ.s rfl rfl rfl (StepS.lenN rfl (Ent.at 4 rfl) ksliceB_41_48_4_true rfl).q ?_
          refine TQ.s rfl rfl rfl (StepS.cmp rfl rfl rfl).q ?_
          refine TQ.s rfl rfl rfl (StepS.move rfl).q ?_
          obtain ⟨b38, hj39, hb16⟩ := bind_some hb16
          refine TQ.mid1 17 82 (.bool b38) ?_ ?_
          · refine bcase ((decide ((w64 (2 * x26)) > (a0.2.length : Int)))) (fun hb37 => ?_) (fun hb37 => ?_)
            · replace hj39 := cond_t hb37 hj39
              refine TQ.sw rfl rfl rfl hb37 rfl rfl (StepS.move rfl).q ?_
              refine TQ.sw rfl rfl rfl hb37 rfl rfl (StepS.nilc rfl).q ?_
              refine TQ.sw rfl rfl rfl hb37 rfl rfl (StepS.ptrf rfl kfieldB_48_0_0_true).q ?_
              obtain ⟨x40, hx41, hj39⟩ := bind_some hj39
              refine TQ.sw rfl rfl rfl hb37 rfl rfl (StepS.ldN (j := 0) rfl (Ent.at 4 rfl) kscalB_36_true hx41 rfl rfl).q ?_
              refine TQ.sw rfl rfl rfl hb37 rfl rfl (StepS.move rfl).q ?_
              refine TQ.sw rfl rfl rfl hb37 rfl rfl (StepS.ari rfl rfl rfl).q ?_
              obtain ⟨x42, hx43, hj39⟩ := bind_some hj39
              refine TQ.sw rfl rfl rfl hb37 rfl rfl (StepS.idx rfl rfl (OwnS.rd (SN.piece (Ent.at 4 rfl) hx41 0 rfl)) ksliceB_36_52_2_true (idx_spec hx43).1 (idxm_lt hx43)).q ?_
              refine TQ.sw rfl rfl rfl hb37 rfl rfl (StepS.ptrf rfl kfieldB_52_0_0_true).q ?_
              refine TQ.sw rfl rfl rfl hb37 rfl rfl (StepS.ld1 rfl (OwnS.rd (SN.piece (Ent.at 4 rfl) hx41 0 rfl)) kscalB_3_true rfl (idxm hx43) rfl).q ?_
              refine TQ.sw rfl rfl rfl hb37 rfl rfl (StepS.move rfl).q ?_
              refine TQ.sw rfl rfl rfl hb37 rfl rfl (StepS.nilc rfl).q ?_
              refine TQ.sw rfl rfl rfl hb37 rfl rfl (StepS.fld rfl kfieldB_43_0_0_true).q ?_
              refine TQ.sw rfl rfl rfl hb37 rfl rfl (StepS.ldB rfl (Ent.at 0 rfl) kscalB_39_true rfl).q ?_
              refine TQ.sw rfl rfl rfl hb37 rfl rfl (StepS.move rfl).q ?_
              obtain ⟨r44, hc45, hj39⟩ := bind_some hj39
              refine TQ.sw rfl rfl rfl hb37 rfl rfl (StepQ.call kcallB_12_true rfl rfl (fun _ st => C12 (Ent.at 1 rfl) (OwnS.rd (Ent.at 2 rfl)) (OwnS.rd (Ent.at 3 rfl)) hc45 st)) ?_
              refine TQ.sw rfl rfl rfl hb37 rfl rfl (StepS.cmp rfl rfl rfl).q ?_
              cases hj39
              refine TQ.s rfl rfl rfl (StepS.pickT rfl hb37 rfl).q ?_
              exact TQ.up1 17 0 rfl rfl rfl rfl
            · replace hj39 := cond_f hb37 hj39
              cases hj39
              refine TQ.skip rfl rfl rfl (skipF hb37) rfl rfl ?_
              refine TQ.skip rfl rfl rfl (skipF hb37) rfl rfl ?_
              refine TQ.skip rfl rfl rfl (skipF hb37) rfl rfl ?_
              refine TQ.skip rfl rfl rfl (skipF hb37) rfl rfl ?_
              refine TQ.skip rfl rfl rfl (skipF hb37) rfl rfl ?_
              refine TQ.skip rfl rfl rfl (skipF hb37) rfl rfl ?_
              refine TQ.skip rfl rfl rfl (skipF hb37) rfl rfl ?_
              refine TQ.skip rfl rfl rfl (skipF hb37) rfl rfl ?_
              refine TQ.skip rfl rfl rfl (skipF hb37) rfl rfl ?_
              refine TQ.skip rfl rfl rfl (skipF hb37) rfl rfl ?_
              refine TQ.skip rfl rfl rfl (skipF hb37) rfl rfl ?_
              refine TQ.skip rfl rfl rfl (skipF hb37) rfl rfl ?_
              refine TQ.skip rfl rfl rfl (skipF hb37) rfl rfl ?_
              refine TQ.skip rfl rfl rfl (skipF hb37) rfl rfl ?_
              refine TQ.skip rfl rfl rfl (skipF hb37) rfl rfl ?_
              refine TQ.skip rfl rfl rfl (skipF hb37) rfl rfl ?_
              refine TQ.s rfl rfl rfl (StepS.pickF rfl hb37 rfl).q ?_
              exact TQ.up1 17 0 rfl rfl rfl rfl
          refine TQ.code ?_
          refine TC.cond rfl (fun hc46 => ?_) (fun hc46 => ?_)
          · replace hb16 := cond_t hc46 hb16
            refine TC.k ?_
            refine TC.region ?_
            refine TO.s rfl rfl rfl (StepS.move rfl) ?_
            refine TO.s rfl rfl rfl (StepS.move rfl) ?_
            refine TO.s rfl rfl rfl (StepS.nilc rfl) ?_
            refine TO.s rfl rfl rfl (StepS.ptrf rfl kfieldB_48_1_1_true) ?_
            obtain ⟨x47, hx48, hb16⟩ := bind_some hb16
            refine TO.ghost (fun _ s => Sat.front 4 rfl s) ?_
            refine TO.openN (L' := (OwnS 52 2 (cv (gr h0_5 a1.toNat) 0) (x47.1.map cTii) :: OwnS 3 1 (cv (gr h0_5 a1.toNat) 1) (x47.2.2.1.map cI) :: OwnS 3 1 (cv (gr h0_5 a1.toNat) 2) (x47.2.2.2.map cI) :: SNh 48 4 nT48 h0_4 h0_5 (a0.2) a1.toNat [(cv (gr h0_5 a1.toNat) 0), I x47.2.1, (cv (gr h0_5 a1.toNat) 1), (cv (gr h0_5 a1.toNat) 2)] :: Bx b0_ 43 [.pointer (some ⟨h0_1, 0, none⟩), h0_4] :: Bx h0_1 64 [h0_2, h0_3] :: OwnS 67 4 h0_2 (a0.1.1.map cTiiiiu32) :: OwnS 79 2 h0_3 (a0.1.2.map cTii) :: L)) rfl hx48 rfl ?_
            refine TO.ghost (fun _ s => Sat.front 3 rfl s) ?_
            refine TO.stNh (i := a1) (off := 1) (us := [I x12]) (cs' := [(cv (gr h0_5 a1.toNat) 0), I x12, (cv (gr h0_5 a1.toNat) 1), (cv (gr h0_5 a1.toNat) 2)]) rfl rfl ksizeB_3_1_true rfl rfl rfl hx48 rfl (by simp [Value.oneCell']) rfl ?_
            refine TO.ghost (fun _ s => Sat.front 3 rfl s) ?_
            refine TO.ghost (fun _ s => Sat.front 3 rfl s) ?_
            refine TO.ghost (fun _ s => Sat.front 3 rfl s) ?_
            obtain ⟨y53, hy54, hb16⟩ := bind_some hb16
            refine TO.closeN (T := nT48) (cs := [(cv (gr h0_5 a1.toNat) 0), I x12, (cv (gr h0_5 a1.toNat) 1), (cv (gr h0_5 a1.toNat) 2)]) [(cv (gr h0_5 a1.toNat) 0), (cv (gr h0_5 a1.toNat) 1), (cv (gr h0_5 a1.toNat) 2)] (x47.1, x12, x47.2.2.1, x47.2.2.2) rfl rfl hx48 (Option.some.inj hy54) fun hs52 => ?_
            refine TO.code ?_
            refine TC.k ?_
            refine TC.region ?_
            refine TO.s rfl rfl rfl (StepS.assign rfl) ?_
            refine TO.code ?_
            cases hb16
            refine TC.ret fun a w e s => ?_
            refine FRet.mk1 (P := Try.prog) (fn := Try.f22) (t := 4) e rfl rfl ?_
            refine ⟨_, _, rfl, ⟨(hs52), rfl, rfl⟩, ?_⟩
            refine s.mono fun _ s => ?_
            exact Sat.by [0, 4, 4, 4, 4] 5 0 (by kernel_rfl) s
          · replace hb16 := cond_f hc46 hb16
            refine TC.skipk ?_
            refine TC.region ?_
            refine TO.s rfl rfl rfl (StepS.move rfl) ?_
            refine TO.s rfl rfl rfl (StepS.ari rfl rfl rfl) ?_
            refine TO.s rfl rfl rfl (StepS.assign rfl) ?_
            cases hb16
            refine TO.nil fun a w e s => ?_
            exact ⟨e.sub (lk_of_allIn ⟨rfl, rfl, rfl, rfl, trivial⟩), s⟩
        · rintro r rfl
          exact fun a w h => h.elim
      · replace hb16 := cond_f hc19 hb16
        cases hb16
        refine TC.exit rfl fun a w e s => ?_
        exact ⟨e.sub (lk_of_allIn trivial), s⟩
    · exact fun a w e s => ⟨e.sub (lk_of_allIn ⟨rfl, rfl, rfl, rfl, trivial⟩), s⟩
    · rintro _ rfl a w ⟨he, hs⟩
      dsimp only [Ctl.on] at hm
      refine TC.use ?_ he hs
      refine TC.k ?_
      refine TC.region ?_
      refine TO.s rfl rfl rfl (StepS.assign rfl) ?_
      refine TO.code ?_
      cases hm
      refine TC.ret fun a w e s => ?_
      refine FRet.mk1 (P := Try.prog) (fn := Try.f22) (t := 4) e rfl rfl ?_
      refine ⟨_, _, rfl, ⟨(h0_5), rfl, rfl⟩, ?_⟩
      refine s.mono fun _ s => ?_
      exact Sat.by [4, 4, 4, 4, 4] 5 0 (by kernel_rfl) s
    · rintro r rfl
      cases hm
      exact fun a w h => h
end Go.Proofs.Ytacggcanjanmkaa
