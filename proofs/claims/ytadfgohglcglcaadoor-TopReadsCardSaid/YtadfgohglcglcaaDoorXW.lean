/-
  The walks: each Go function returns what its model says. Written by a program (gen.py).
-/
import Derived.Test.YtadfgohglcglcaaDoorProg
import Derived.KernelRfl
import Derived.Test.YtadfgohglcglcaaDoorSW
import Derived.Test.YtadfgohglcglcaaDoorNW
import Derived.Test.YtadfgohglcglcaaDoorKW
import Derived.Test.YtadfgohglcglcaaDoorXM
namespace Go.Proofs.YtadfgohglcglcaaDoor
open Go Go.Bk
set_option linter.unusedVariables false
set_option linter.unnecessarySimpa false
theorem kfieldB_73_0_0_true : fieldB Tryd.prog 73 0 0 = true := by kernel_rfl
theorem kscalB_70_true : scalB Tryd.prog 70 = true := by kernel_rfl
theorem ksliceB_70_77_2_true : sliceB Tryd.prog 70 77 2 = true := by kernel_rfl
theorem kfieldB_77_1_1_true : fieldB Tryd.prog 77 1 1 = true := by kernel_rfl
theorem kfieldB_77_0_0_true : fieldB Tryd.prog 77 0 0 = true := by kernel_rfl
theorem kscalB_74_true : scalB Tryd.prog 74 = true := by kernel_rfl
theorem kfieldB_73_1_1_true : fieldB Tryd.prog 73 1 1 = true := by kernel_rfl
theorem kscalB_34_true : scalB Tryd.prog 34 = true := by kernel_rfl
theorem kfieldB_73_2_2_true : fieldB Tryd.prog 73 2 2 = true := by kernel_rfl
theorem karrB_71_6_3_1_true : arrB Tryd.prog 71 6 3 1 = true := by kernel_rfl
theorem kelemB_34_45_4_48_true : elemB Tryd.prog 34 45 4 48 = true := by kernel_rfl
theorem ksizeB_34_1_true : sizeB Tryd.prog 34 1 = true := by kernel_rfl
theorem kcallB_34_true : callB Tryd.prog 34 = true := by kernel_rfl
theorem kfieldB_73_3_8_true : fieldB Tryd.prog 73 3 8 = true := by kernel_rfl
theorem kfieldB_47_1_1_true : fieldB Tryd.prog 47 1 1 = true := by kernel_rfl
theorem kfieldB_47_2_2_true : fieldB Tryd.prog 47 2 2 = true := by kernel_rfl
theorem kfieldB_47_0_0_true : fieldB Tryd.prog 47 0 0 = true := by kernel_rfl
theorem kfieldB_47_3_3_true : fieldB Tryd.prog 47 3 3 = true := by kernel_rfl
theorem kcallB_33_true : callB Tryd.prog 33 = true := by kernel_rfl
theorem kinfo_26_bind_zero_some_agg_slice_none_0_0_slice_none_0_0_slice_none_0_0 : (Tryd.prog.info? 26).bind (·.zero) = some (.agg #[.slice none 0 0, .slice none 0 0, .slice none 0 0]) := by kernel_rfl
theorem ksliceB_22_47_7_true : sliceB Tryd.prog 22 47 7 = true := by kernel_rfl
theorem ksizeB_26_3_true : sizeB Tryd.prog 26 3 = true := by kernel_rfl
theorem kaggB_26_3_true : aggB Tryd.prog 26 3 = true := by kernel_rfl
theorem kelemB_70_77_2_16_true : elemB Tryd.prog 70 77 2 16 = true := by kernel_rfl
theorem kinfo_77_bind_zero_some_agg_pointer_none_I_0 : (Tryd.prog.info? 77).bind (·.zero) = some (.agg #[.pointer none, I 0]) := by kernel_rfl
theorem ksizeB_70_1_true : sizeB Tryd.prog 70 1 = true := by kernel_rfl
theorem kaggB_47_7_true : aggB Tryd.prog 47 7 = true := by kernel_rfl
theorem kinfo_47_bind_zero_some_agg_I_0_I_0_I_0_I_0_string_ByteArray_empty_string_ByteArray_empty_I_0 : (Tryd.prog.info? 47).bind (·.zero) = some (.agg #[I 0, I 0, I 0, I 0, .string ByteArray.empty, .string ByteArray.empty, I 0]) := by kernel_rfl
theorem ksizeB_47_7_true : sizeB Tryd.prog 47 7 = true := by kernel_rfl
theorem kfieldB_26_0_0_true : fieldB Tryd.prog 26 0 0 = true := by kernel_rfl
theorem kscalB_23_true : scalB Tryd.prog 23 = true := by kernel_rfl
theorem kcallB_27_true : callB Tryd.prog 27 = true := by kernel_rfl
theorem ksizeB_23_1_true : sizeB Tryd.prog 23 1 = true := by kernel_rfl
theorem kaggB_77_2_true : aggB Tryd.prog 77 2 = true := by kernel_rfl
theorem ksizeB_77_2_true : sizeB Tryd.prog 77 2 = true := by kernel_rfl
theorem kfieldB_26_1_1_true : fieldB Tryd.prog 26 1 1 = true := by kernel_rfl
theorem kscalB_24_true : scalB Tryd.prog 24 = true := by kernel_rfl
theorem kelemB_24_3_1_8_true : elemB Tryd.prog 24 3 1 8 = true := by kernel_rfl
theorem kinfo_3_bind_zero_some_I_0 : (Tryd.prog.info? 3).bind (·.zero) = some (I 0) := by kernel_rfl
theorem ksizeB_24_1_true : sizeB Tryd.prog 24 1 = true := by kernel_rfl
theorem kfieldB_26_2_2_true : fieldB Tryd.prog 26 2 2 = true := by kernel_rfl
theorem ksizeB_27_1_true : sizeB Tryd.prog 27 1 = true := by kernel_rfl
theorem ksliceB_24_3_1_true : sliceB Tryd.prog 24 3 1 = true := by kernel_rfl
theorem kcallB_10_true : callB Tryd.prog 10 = true := by kernel_rfl
theorem kcallB_11_true : callB Tryd.prog 11 = true := by kernel_rfl
theorem kcallB_25_true : callB Tryd.prog 25 = true := by kernel_rfl
theorem kcallB_18_true : callB Tryd.prog 18 = true := by kernel_rfl

set_option maxRecDepth 100000 in
theorem C34 {B : World} {L : List HP} {a0 : (List ((ByteArray → Option (ByteArray × Int)) × Int)) × List (Int × ByteArray × ByteArray × Int)} {a1 : Int} {a2 : Int} {b0_ : Nat} {u0_2 : Value} {u0_3 : Value} {u0_4 : Value} {u0_5 : Value} {u0_6 : Value} {u0_7 : Value} {u0_8 : Value} {u0_9 : Value} {u0_10 : Value} {u0_11 : Value} {u0_12 : Value} {u0_13 : Value} {h0_1 : Value} {h0_2 : List (List Value)} {h0_3 : Value} {r0 : Int × ByteArray × Int × List ByteArray} {s0 : (List ((ByteArray → Option (ByteArray × Int)) × Int)) × List (Int × ByteArray × ByteArray × Int)} (hm : F34 a0 a1 a2 = some (r0, s0)) {w : World} (st : St B (Bx b0_ 73 [h0_1, h0_3, u0_2, u0_3, u0_4, u0_5, u0_6, u0_7, u0_8, u0_9, u0_10, u0_11, u0_12, u0_13] :: SN 77 2 nT77 h0_1 h0_2 (a0.1) :: OwnS 45 4 h0_3 (a0.2.map cTissi) :: L) w) : Calls Tryd.prog 34 #[.pointer (some ⟨b0_, 0, none⟩), I a1, I a2] w (fun e w' => ∃ v M, e = .returned v ∧ (∃ (qhs1 : List (List Value)) (qv2 : Value), v = .agg #[I r0.1, .string r0.2.1, I r0.2.2.1, qv2] ∧ M = (Bx b0_ 73 [h0_1, h0_3, u0_2, u0_3, u0_4, u0_5, u0_6, u0_7, u0_8, u0_9, u0_10, u0_11, u0_12, u0_13] :: SN 77 2 nT77 h0_1 qhs1 (s0.1) :: OwnS 45 4 h0_3 (s0.2.map cTissi) :: OwnS 9 1 qv2 (r0.2.2.2.map cS) :: L)) ∧ St B M w') := by
  refine calls_of (N := 53) (L := (Bx b0_ 73 [h0_1, h0_3, u0_2, u0_3, u0_4, u0_5, u0_6, u0_7, u0_8, u0_9, u0_10, u0_11, u0_12, u0_13] :: SN 77 2 nT77 h0_1 h0_2 (a0.1) :: OwnS 45 4 h0_3 (a0.2.map cTissi) :: L)) (args := [.pointer (some ⟨b0_, 0, none⟩), I a1, I a2]) Tryd.func34 rfl rfl rfl ?_ st
  dsimp only [F34] at hm
  refine TC.k ?_
  refine TC.region ?_
  refine TO.alloc kinfo_41_bind_zero_some_agg_I_0_string_ByteArray_empty_I_0_slice_none_0_0 rfl rfl fun b6 => ?_
  refine TO.code ?_
  refine TC.k ?_
  refine TC.region ?_
  refine TO.alloc kinfo_41_bind_zero_some_agg_I_0_string_ByteArray_empty_I_0_slice_none_0_0 rfl rfl fun b7 => ?_
  refine TO.code ?_
  refine TC.k ?_
  obtain ⟨o32, hw33, hm⟩ := bind_some hm
  refine TC.loop hw33 (fun (y10, y11, x13, t14, x15) => fun a w => ∃ v8 : Value, ∃ hs12 : List (List Value), Mid 53 B [(0, .pointer (some ⟨b0_, 0, none⟩)), (1, I a1), (2, I a2), (6, .pointer (some ⟨b6, 0, none⟩)), (7, .pointer (some ⟨b7, 0, none⟩))] (OwnS 9 1 v8 (y10.map cS) :: Bx b7 41 [I x13, .string t14, I x15, v8] :: Bx b6 41 [I 0, .string ByteArray.empty, I 0, .slice none 0 0] :: Bx b0_ 73 [h0_1, h0_3, u0_2, u0_3, u0_4, u0_5, u0_6, u0_7, u0_8, u0_9, u0_10, u0_11, u0_12, u0_13] :: SN 77 2 nT77 h0_1 hs12 (y11) :: OwnS 45 4 h0_3 (a0.2.map cTissi) :: L) a w) (fun (y26, y27, x29, t30, x31) => fun a w => ∃ v24 : Value, ∃ hs28 : List (List Value), Mid 53 B [(6, .pointer (some ⟨b6, 0, none⟩)), (7, .pointer (some ⟨b7, 0, none⟩))] (OwnS 9 1 v24 (y26.map cS) :: Bx b7 41 [I x29, .string t30, I x31, v24] :: Bx b6 41 [I 0, .string ByteArray.empty, I 0, .slice none 0 0] :: Bx b0_ 73 [h0_1, h0_3, u0_2, u0_3, u0_4, u0_5, u0_6, u0_7, u0_8, u0_9, u0_10, u0_11, u0_12, u0_13] :: SN 77 2 nT77 h0_1 hs28 (y27) :: OwnS 45 4 h0_3 (a0.2.map cTissi) :: L) a w) (fun (_ : Unit) _ _ => False) ?_ ?_ ?_ ?_
  · rintro ⟨y10, y11, x13, t14, x15⟩ o32r hb34 a w ⟨v8, hs12, he, hs⟩
    dsimp only [F34_L0] at hb34
    refine TC.use ?_ he hs
    refine TC.k ?_
    refine TC.k ?_
    refine TC.region ?_
    refine TO.s rfl rfl rfl (StepS.move rfl) ?_
    refine TO.s rfl rfl rfl (StepS.nilc rfl) ?_
    refine TO.s rfl rfl rfl (StepS.fld rfl kfieldB_73_0_0_true) ?_
    refine TO.s rfl rfl rfl (StepS.ldB rfl (Ent.at 3 rfl) kscalB_70_true rfl) ?_
    refine TO.s rfl rfl rfl (StepS.move rfl) ?_
    obtain ⟨x35, hx36, hb34⟩ := bind_some hb34
    refine TO.s rfl rfl rfl (StepS.idxN rfl rfl (Ent.at 4 rfl) ksliceB_70_77_2_true hx36) ?_
    refine TO.s rfl rfl rfl (StepS.ptrf rfl kfieldB_77_1_1_true) ?_
    refine TO.s rfl rfl rfl (StepS.ldN (j := 1) rfl (Ent.at 4 rfl) kscalB_3_true hx36 rfl rfl) ?_
    refine TO.s rfl rfl rfl (StepS.move rfl) ?_
    refine TO.s rfl rfl rfl (StepS.cmp rfl rfl rfl) ?_
    refine TO.code ?_
    refine TC.cond rfl (fun hc37 => ?_) (fun hc37 => ?_)
    · replace hb34 := cond_t hc37 hb34
      refine TC.skipk ?_
      refine TC.k ?_
      refine TC.block ?_
      refine TC.region_tail 22 kfollows_mixedOrders_true (by kernel_rfl) ?_
      refine TS.s rfl rfl rfl (StepS.move rfl) ?_
      refine TS.s rfl rfl rfl (StepS.nilc rfl) ?_
      refine TS.s rfl rfl rfl (StepS.fld rfl kfieldB_73_0_0_true) ?_
      refine TS.s rfl rfl rfl (StepS.ldB rfl (Ent.at 3 rfl) kscalB_70_true rfl) ?_
      refine TS.s rfl rfl rfl (StepS.move rfl) ?_
      obtain ⟨x38, hx39, hb34⟩ := bind_some hb34
      refine TS.s rfl rfl rfl (StepS.idxN rfl rfl (Ent.at 4 rfl) ksliceB_70_77_2_true hx39) ?_
      refine TS.s rfl rfl rfl (StepS.ptrf rfl kfieldB_77_0_0_true) ?_
      refine TS.s rfl rfl rfl (StepS.ldN (j := 0) rfl (Ent.at 4 rfl) kscalB_74_true hx39 rfl rfl) ?_
      refine TS.s rfl rfl rfl (StepS.move rfl) ?_
      refine TS.s rfl rfl rfl (StepS.nilc rfl) ?_
      refine TS.s rfl rfl rfl (StepS.fld rfl kfieldB_73_1_1_true) ?_
      refine TS.s rfl rfl rfl (StepS.ldB rfl (Ent.at 3 rfl) kscalB_34_true rfl) ?_
      refine TS.s rfl rfl rfl (StepS.move rfl) ?_
      refine TS.s rfl rfl rfl (StepS.nilc rfl) ?_
      refine TS.s rfl rfl rfl (StepS.fld rfl kfieldB_73_0_0_true) ?_
      refine TS.s rfl rfl rfl (StepS.ldB rfl (Ent.at 3 rfl) kscalB_70_true rfl) ?_
      refine TS.s rfl rfl rfl (StepS.move rfl) ?_
      obtain ⟨x40, hx41, hb34⟩ := bind_some hb34
      refine TS.s rfl rfl rfl (StepS.idxN rfl rfl (Ent.at 4 rfl) ksliceB_70_77_2_true hx41) ?_
      refine TS.s rfl rfl rfl (StepS.ptrf rfl kfieldB_77_1_1_true) ?_
      refine TS.s rfl rfl rfl (StepS.ldN (j := 1) rfl (Ent.at 4 rfl) kscalB_3_true hx41 rfl rfl) ?_
      obtain ⟨x42, hx43, hb34⟩ := bind_some hb34
      refine TS.s rfl rfl rfl (StepS.idx rfl rfl (OwnS.rd (Ent.at 5 rfl)) ksliceB_34_45_4_true (idx_spec hx43).1 (idxm_lt hx43)) ?_
      refine TS.s rfl rfl rfl (StepS.ldE rfl (OwnS.rd (Ent.at 5 rfl)) kaggB_45_4_true rfl (idxm hx43)) ?_
      refine TS.nil ?_
      refine TO.at ?_
      refine TO.ghost (fun _ s => Sat.front 4 rfl s) ?_
      refine TO.openN (L' := (Bx (pq (cv (gr hs12 a1.toNat) 0)) 103 [.map (some (mv (cv (gr hs12 a1.toNat) 1)))] :: MF (fun k : ByteArray => .string k) (fun x : ByteArray × Int => .agg (cTsi x).toArray) (mv (cv (gr hs12 a1.toNat) 1)) (x38.1) :: SNh 77 2 nT77 h0_1 hs12 (y11) a1.toNat [.pointer (some ⟨(pq (cv (gr hs12 a1.toNat) 0)), 0, none⟩), I x38.2] :: OwnS 9 1 v8 (y10.map cS) :: Bx b7 41 [I x13, .string t14, I x15, v8] :: Bx b6 41 [I 0, .string ByteArray.empty, I 0, .slice none 0 0] :: Bx b0_ 73 [h0_1, h0_3, u0_2, u0_3, u0_4, u0_5, u0_6, u0_7, u0_8, u0_9, u0_10, u0_11, u0_12, u0_13] :: OwnS 45 4 h0_3 (a0.2.map cTissi) :: L)) rfl hx39 rfl ?_
      refine TO.ghost (fun _ s => Sat.front 1 rfl s) ?_
      refine TO.ghost (fun _ s => Sat.front 1 rfl s) ?_
      obtain ⟨⟨r46, r47⟩, hc48, hb34⟩ := bind_some hb34
      refine TO.callO kcallB_29_true rfl rfl rfl (fun _ st => C29 (a0 := x38.1)  hc48 st) ?_
      rintro _ _ ⟨r49, v51, rfl, rfl⟩
      refine TO.ghost (fun _ s => Sat.front 3 rfl s) ?_
      refine TO.ghost (fun _ s => Sat.front 2 rfl s) ?_
      refine TO.ghost (fun _ s => Sat.front 2 rfl s) ?_
      obtain ⟨y54, hy55, hb34⟩ := bind_some hb34
      refine TO.closeN (T := nT77) (cs := [.pointer (some ⟨(pq (cv (gr hs12 a1.toNat) 0)), 0, none⟩), I x38.2]) [.pointer (some ⟨(pq (cv (gr hs12 a1.toNat) 0)), 0, none⟩), .map (some r49)] (r47, x38.2) rfl rfl hx39 (Option.some.inj hy55) fun hs53 => ?_
      refine TO.pure (fun _ s => Rd.one (OwnS.rd (Ent.at 1 rfl)) s) fun oc56 => ?_
      refine TO.stB (us := [I r46.1, .string r46.2.1, I r46.2.2.1, v51]) 3 [I r46.1, .string r46.2.1, I r46.2.2.1, v51] rfl rfl rfl ksizeB_41_4_true rfl rfl rfl (by intro u hu; simp only [List.mem_cons, List.not_mem_nil, or_false] at hu; rcases hu with rfl | rfl | rfl | rfl <;> first | exact oc56.1 | rfl) rfl ?_
      refine TO.code ?_
      refine TC.region ?_
      refine TO.s rfl rfl rfl (StepS.move rfl) ?_
      refine TO.s rfl rfl rfl (StepS.nilc rfl) ?_
      refine TO.s rfl rfl rfl (StepS.fld rfl kfieldB_73_0_0_true) ?_
      refine TO.s rfl rfl rfl (StepS.ldB rfl (Ent.at 5 rfl) kscalB_70_true rfl) ?_
      refine TO.s rfl rfl rfl (StepS.move rfl) ?_
      obtain ⟨x57, hx58, hb34⟩ := bind_some hb34
      refine TO.s rfl rfl rfl (StepS.idxN rfl rfl (Ent.at 0 rfl) ksliceB_70_77_2_true hx58) ?_
      refine TO.s rfl rfl rfl (StepS.ptrf rfl kfieldB_77_1_1_true) ?_
      refine TO.s rfl rfl rfl (StepS.ldN (j := 1) rfl (Ent.at 0 rfl) kscalB_3_true hx58 rfl rfl) ?_
      refine TO.s rfl rfl rfl (StepS.ari rfl rfl rfl) ?_
      obtain ⟨x59, hx60, hb34⟩ := bind_some hb34
      refine TO.s rfl rfl rfl (StepS.idxN rfl rfl (Ent.at 0 rfl) ksliceB_70_77_2_true hx60) ?_
      refine TO.s rfl rfl rfl (StepS.ptrf rfl kfieldB_77_1_1_true) ?_
      refine TO.openN (L' := (Bx (pq (cv (gr hs53 a1.toNat) 0)) 103 [.map (some (mv (cv (gr hs53 a1.toNat) 1)))] :: MF (fun k : ByteArray => .string k) (fun x : ByteArray × Int => .agg (cTsi x).toArray) (mv (cv (gr hs53 a1.toNat) 1)) (x59.1) :: SNh 77 2 nT77 h0_1 hs53 (y54) a1.toNat [.pointer (some ⟨(pq (cv (gr hs53 a1.toNat) 0)), 0, none⟩), I x59.2] :: OwnS 9 1 v51 (r46.2.2.2.map cS) :: OwnS 9 1 v8 (y10.map cS) :: Bx b7 41 [I r46.1, .string r46.2.1, I r46.2.2.1, v51] :: Bx b6 41 [I 0, .string ByteArray.empty, I 0, .slice none 0 0] :: Bx b0_ 73 [h0_1, h0_3, u0_2, u0_3, u0_4, u0_5, u0_6, u0_7, u0_8, u0_9, u0_10, u0_11, u0_12, u0_13] :: OwnS 45 4 h0_3 (a0.2.map cTissi) :: L)) rfl hx60 rfl ?_
      refine TO.ghost (fun _ s => Sat.front 2 rfl s) ?_
      refine TO.stNh (i := a1) (off := 1) (us := [I (w64 (x57.2 + 1))]) (cs' := [.pointer (some ⟨(pq (cv (gr hs53 a1.toNat) 0)), 0, none⟩), I (w64 (x57.2 + 1))]) rfl rfl ksizeB_3_1_true rfl rfl rfl hx60 rfl (by simp [Value.oneCell']) rfl ?_
      refine TO.ghost (fun _ s => Sat.front 2 rfl s) ?_
      refine TO.ghost (fun _ s => Sat.front 2 rfl s) ?_
      obtain ⟨y64, hy65, hb34⟩ := bind_some hb34
      refine TO.closeN (T := nT77) (cs := [.pointer (some ⟨(pq (cv (gr hs53 a1.toNat) 0)), 0, none⟩), I (w64 (x57.2 + 1))]) [.pointer (some ⟨(pq (cv (gr hs53 a1.toNat) 0)), 0, none⟩), .map (some (mv (cv (gr hs53 a1.toNat) 1)))] (x59.1, w64 (x57.2 + 1)) rfl rfl hx60 (Option.some.inj hy65) fun hs63 => ?_
      cases hb34
      refine TO.nil fun a w e s => ?_
      exact ⟨v51, hs63, e.sub (lk_of_allIn ⟨rfl, rfl, rfl, rfl, rfl, trivial⟩), s.mono fun _ s => (by exact Sat.by [6, 1, 6, 6, 6, 5] 6 1 (by kernel_rfl) s)⟩
    · replace hb34 := cond_f hc37 hb34
      cases hb34
      refine TC.exit rfl fun a w e s => ?_
      exact ⟨v8, hs12, e.sub (lk_of_allIn ⟨rfl, rfl, trivial⟩), s⟩
  · exact fun a w e s => ⟨.slice none 0 0, h0_2, e.sub (lk_of_allIn ⟨rfl, rfl, rfl, rfl, rfl, trivial⟩), s.mono fun _ s => (by replace s := Sat.nilS (e := 9) (sz := 1) (f := cS) s; exact Sat.by [5, 5, 5, 5, 5, 5] 6 0 (by kernel_rfl) s)⟩
  · rintro ⟨y26, y27, x29, t30, x31⟩ rfl a w ⟨v24, hs28, he, hs⟩
    dsimp only [Ctl.on] at hm
    refine TC.use ?_ he hs
    refine TC.k ?_
    refine TC.region ?_
    refine TO.s rfl rfl rfl (StepS.ldBA rfl (Ent.at 1 rfl) kaggB_41_4_true rfl rfl) ?_
    refine TO.pure (fun _ s => Rd.one (OwnS.rd (Ent.at 0 rfl)) s) fun oc66 => ?_
    refine TO.stB (us := [I x29, .string t30, I x31, v24]) 2 [I x29, .string t30, I x31, v24] rfl rfl rfl ksizeB_41_4_true rfl rfl rfl (by intro u hu; simp only [List.mem_cons, List.not_mem_nil, or_false] at hu; rcases hu with rfl | rfl | rfl | rfl <;> first | exact oc66.1 | rfl) rfl ?_
    refine TO.code ?_
    cases hm
    refine TC.ret fun a w e s => ?_
    refine FRet.cell1 (P := Tryd.prog) (fn := Tryd.f34) e s rfl rfl (Ent.at 2 rfl) kaggB_41_4_true rfl ?_
    refine ⟨_, _, rfl, ⟨(hs28), (v24), rfl, rfl⟩, ?_⟩
    refine s.mono fun _ s => ?_
    replace s := Sat.front 0 rfl s
    replace s := Sat.front 5 rfl s
    replace s := Sat.front 5 rfl s
    replace s := Sat.front 5 rfl s
    replace s := Sat.erase 4 s
    replace s := Sat.erase 4 s
    exact s
  · rintro r rfl
    exact fun a w h => h.elim

set_option maxRecDepth 100000 in
theorem C33 {B : World} {L : List HP} {a0 : (List ((ByteArray → Option (ByteArray × Int)) × Int)) × (List (Int × ByteArray × ByteArray × Int)) × (T6 Int) × T6 Int} {a1 : Int} {a2 : Int × ByteArray × ByteArray × Int} {b0_ : Nat} {h0_1 : Value} {h0_2 : List (List Value)} {h0_3 : Value} {r0 : Int × ByteArray × Int × List ByteArray} {s0 : (List ((ByteArray → Option (ByteArray × Int)) × Int)) × (List (Int × ByteArray × ByteArray × Int)) × (T6 Int) × T6 Int} (hm : F33 a0 a1 a2 = some (r0, s0)) {w : World} (st : St B (Bx b0_ 73 [h0_1, h0_3, I a0.2.2.1.1, I a0.2.2.1.2.1, I a0.2.2.1.2.2.1, I a0.2.2.1.2.2.2.1, I a0.2.2.1.2.2.2.2.1, I a0.2.2.1.2.2.2.2.2, I a0.2.2.2.1, I a0.2.2.2.2.1, I a0.2.2.2.2.2.1, I a0.2.2.2.2.2.2.1, I a0.2.2.2.2.2.2.2.1, I a0.2.2.2.2.2.2.2.2] :: SN 77 2 nT77 h0_1 h0_2 (a0.1) :: OwnS 45 4 h0_3 (a0.2.1.map cTissi) :: L) w) : Calls Tryd.prog 33 #[.pointer (some ⟨b0_, 0, none⟩), I a1, .agg (cTissi a2).toArray] w (fun e w' => ∃ v M, e = .returned v ∧ (∃ (qhs1 : List (List Value)) (qv2 : Value) (qv3 : Value), v = .agg #[I r0.1, .string r0.2.1, I r0.2.2.1, qv3] ∧ M = (Bx b0_ 73 [h0_1, qv2, I s0.2.2.1.1, I s0.2.2.1.2.1, I s0.2.2.1.2.2.1, I s0.2.2.1.2.2.2.1, I s0.2.2.1.2.2.2.2.1, I s0.2.2.1.2.2.2.2.2, I s0.2.2.2.1, I s0.2.2.2.2.1, I s0.2.2.2.2.2.1, I s0.2.2.2.2.2.2.1, I s0.2.2.2.2.2.2.2.1, I s0.2.2.2.2.2.2.2.2] :: SN 77 2 nT77 h0_1 qhs1 (s0.1) :: OwnS 45 4 qv2 (s0.2.1.map cTissi) :: OwnS 9 1 qv3 (r0.2.2.2.map cS) :: L)) ∧ St B M w') := by
  refine calls_of (N := 65) (L := (Bx b0_ 73 [h0_1, h0_3, I a0.2.2.1.1, I a0.2.2.1.2.1, I a0.2.2.1.2.2.1, I a0.2.2.1.2.2.2.1, I a0.2.2.1.2.2.2.2.1, I a0.2.2.1.2.2.2.2.2, I a0.2.2.2.1, I a0.2.2.2.2.1, I a0.2.2.2.2.2.1, I a0.2.2.2.2.2.2.1, I a0.2.2.2.2.2.2.2.1, I a0.2.2.2.2.2.2.2.2] :: SN 77 2 nT77 h0_1 h0_2 (a0.1) :: OwnS 45 4 h0_3 (a0.2.1.map cTissi) :: L)) (args := [.pointer (some ⟨b0_, 0, none⟩), I a1, .agg (cTissi a2).toArray]) Tryd.func33 rfl rfl rfl ?_ st
  dsimp only [F33] at hm
  refine TC.k ?_
  refine TC.region ?_
  refine TO.box (cs := [I a2.1, .string a2.2.1, .string a2.2.2.1, I a2.2.2.2]) rfl rfl rfl fun b6 => ?_
  refine TO.alloc kinfo_41_bind_zero_some_agg_I_0_string_ByteArray_empty_I_0_slice_none_0_0 rfl rfl fun b7 => ?_
  refine TO.code ?_
  refine TC.k ?_
  refine TC.region ?_
  refine TO.s rfl rfl rfl (StepS.move rfl) ?_
  refine TO.s rfl rfl rfl (StepS.move rfl) ?_
  refine TO.s rfl rfl rfl (StepS.nilc rfl) ?_
  refine TO.s rfl rfl rfl (StepS.fld rfl kfieldB_73_2_2_true) ?_
  obtain ⟨x8, hx9, hm⟩ := bind_some hm
  refine TO.s rfl rfl rfl (StepS.aidx (j := a1.toNat * 1) rfl rfl karrB_71_6_3_1_true ⟨(idx_spec hx9).1, idx_lt hx9⟩ rfl) ?_
  refine TO.s rfl rfl rfl (StepS.ldD (i := a1) (sz := 1) (k := 0) [h0_1, h0_3] [I a0.2.2.2.1, I a0.2.2.2.2.1, I a0.2.2.2.2.2.1, I a0.2.2.2.2.2.2.1, I a0.2.2.2.2.2.2.2.1, I a0.2.2.2.2.2.2.2.2] (f := cI) (xs := tl6 a0.2.2.1) (y := x8) rfl (Ent.at 2 rfl) kscalB_3_true rfl (by simp only [List.length_cons, List.length_nil] <;> omega) (fun _ => rfl) hx9 rfl) ?_
  refine TO.s rfl rfl rfl (StepS.assign rfl) ?_
  refine TO.code ?_
  refine TC.k ?_
  refine TC.region ?_
  refine TO.alloc kinfo_41_bind_zero_some_agg_I_0_string_ByteArray_empty_I_0_slice_none_0_0 rfl rfl fun b10 => ?_
  refine TO.code ?_
  refine TC.k ?_
  refine TC.k ?_
  refine TC.region ?_
  refine TO.s rfl rfl rfl (StepS.fld rfl kfieldB_45_0_0_true) ?_
  refine TO.s rfl rfl rfl (StepS.ldB rfl (Ent.at 2 rfl) kscalB_3_true rfl) ?_
  refine TO.s rfl rfl rfl (StepS.cmp rfl rfl rfl) ?_
  refine TO.s rfl rfl rfl (StepS.move rfl) ?_
  refine TO.mid1 4 22 (.bool ((a2.1 == 4) || (a2.1 == 5))) ?_ ?_
  · refine bcase ((a2.1 == 4)) (fun hb11 => ?_) (fun hb11 => ?_)
    · refine TO.skip rfl rfl rfl (skipT hb11) rfl rfl ?_
      refine TO.skip rfl rfl rfl (skipT hb11) rfl rfl ?_
      refine TO.skip rfl rfl rfl (skipT hb11) rfl rfl ?_
      refine TO.s rfl rfl rfl (StepS.pickT rfl hb11 rfl) ?_
      exact TO.up1 4 0 rfl rfl (by rw [hb11]; rfl) rfl
    · refine TO.sw rfl rfl rfl hb11 rfl rfl (StepS.fld rfl kfieldB_45_0_0_true) ?_
      refine TO.sw rfl rfl rfl hb11 rfl rfl (StepS.ldB rfl (Ent.at 2 rfl) kscalB_3_true rfl) ?_
      refine TO.sw rfl rfl rfl hb11 rfl rfl (StepS.cmp rfl rfl rfl) ?_
      refine TO.s rfl rfl rfl (StepS.pickF rfl hb11 rfl) ?_
      exact TO.up1 4 0 rfl rfl (by rw [hb11]; rfl) rfl
  refine TO.code ?_
  obtain ⟨⟨y14, y15, y17, x19, t20, x21⟩, hj22, hm⟩ := bind_some hm
  first | refine TC.cutM (fun a w => ∃ v12 : Value, ∃ hs16 : List (List Value), ∃ v18 : Value, Mid 65 B [(0, .pointer (some ⟨b0_, 0, none⟩)), (1, I a1), (6, .pointer (some ⟨b7, 0, none⟩)), (7, I x8), (8, .pointer (some ⟨b10, 0, none⟩))] (OwnS 9 1 v12 (y14.map cS) :: Bx b10 41 [I x19, .string t20, I x21, v12] :: Bx b7 41 [I 0, .string ByteArray.empty, I 0, .slice none 0 0] :: Bx b6 45 [I a2.1, .string a2.2.1, .string a2.2.2.1, I a2.2.2.2] :: Bx b0_ 73 [h0_1, v18, I a0.2.2.1.1, I a0.2.2.1.2.1, I a0.2.2.1.2.2.1, I a0.2.2.1.2.2.2.1, I a0.2.2.1.2.2.2.2.1, I a0.2.2.1.2.2.2.2.2, I a0.2.2.2.1, I a0.2.2.2.2.1, I a0.2.2.2.2.2.1, I a0.2.2.2.2.2.2.1, I a0.2.2.2.2.2.2.2.1, I a0.2.2.2.2.2.2.2.2] :: SN 77 2 nT77 h0_1 hs16 (y15) :: OwnS 45 4 v18 (y17.map cTissi) :: L) a w) ?_ ?_ | refine TC.cutX (fun a w => ∃ v12 : Value, ∃ hs16 : List (List Value), ∃ v18 : Value, Mid 65 B [(0, .pointer (some ⟨b0_, 0, none⟩)), (1, I a1), (6, .pointer (some ⟨b7, 0, none⟩)), (7, I x8), (8, .pointer (some ⟨b10, 0, none⟩))] (OwnS 9 1 v12 (y14.map cS) :: Bx b10 41 [I x19, .string t20, I x21, v12] :: Bx b7 41 [I 0, .string ByteArray.empty, I 0, .slice none 0 0] :: Bx b6 45 [I a2.1, .string a2.2.1, .string a2.2.2.1, I a2.2.2.2] :: Bx b0_ 73 [h0_1, v18, I a0.2.2.1.1, I a0.2.2.1.2.1, I a0.2.2.1.2.2.1, I a0.2.2.1.2.2.2.1, I a0.2.2.1.2.2.2.2.1, I a0.2.2.1.2.2.2.2.2, I a0.2.2.2.1, I a0.2.2.2.2.1, I a0.2.2.2.2.2.1, I a0.2.2.2.2.2.2.1, I a0.2.2.2.2.2.2.2.1, I a0.2.2.2.2.2.2.2.2] :: SN 77 2 nT77 h0_1 hs16 (y15) :: OwnS 45 4 v18 (y17.map cTissi) :: L) a w) ?_ ?_
  · refine TC.cond rfl (fun hc23 => ?_) (fun hc23 => ?_)
    · replace hj22 := cond_t hc23 hj22
      refine TC.region_tail 9 kfollows_mixedOrders_true (by kernel_rfl) ?_
      refine TS.s rfl rfl rfl (StepS.move rfl) ?_
      refine TS.s rfl rfl rfl (StepS.nilc rfl) ?_
      refine TS.s rfl rfl rfl (StepS.fld rfl kfieldB_73_0_0_true) ?_
      refine TS.s rfl rfl rfl (StepS.ldB rfl (Ent.at 3 rfl) kscalB_70_true rfl) ?_
      refine TS.s rfl rfl rfl (StepS.move rfl) ?_
      obtain ⟨x24, hx25, hj22⟩ := bind_some hj22
      refine TS.s rfl rfl rfl (StepS.idxN rfl rfl (Ent.at 4 rfl) ksliceB_70_77_2_true hx25) ?_
      refine TS.s rfl rfl rfl (StepS.ptrf rfl kfieldB_77_0_0_true) ?_
      refine TS.s rfl rfl rfl (StepS.ldN (j := 0) rfl (Ent.at 4 rfl) kscalB_74_true hx25 rfl rfl) ?_
      refine TS.s rfl rfl rfl (StepS.ldBA rfl (Ent.at 2 rfl) kaggB_45_4_true rfl rfl) ?_
      refine TS.nil ?_
      refine TO.at ?_
      refine TO.ghost (fun _ s => Sat.front 4 rfl s) ?_
      refine TO.openN (L' := (Bx (pq (cv (gr h0_2 x8.toNat) 0)) 103 [.map (some (mv (cv (gr h0_2 x8.toNat) 1)))] :: MF (fun k : ByteArray => .string k) (fun x : ByteArray × Int => .agg (cTsi x).toArray) (mv (cv (gr h0_2 x8.toNat) 1)) (x24.1) :: SNh 77 2 nT77 h0_1 h0_2 (a0.1) x8.toNat [.pointer (some ⟨(pq (cv (gr h0_2 x8.toNat) 0)), 0, none⟩), I x24.2] :: Bx b10 41 [I 0, .string ByteArray.empty, I 0, .slice none 0 0] :: Bx b7 41 [I 0, .string ByteArray.empty, I 0, .slice none 0 0] :: Bx b6 45 [I a2.1, .string a2.2.1, .string a2.2.2.1, I a2.2.2.2] :: Bx b0_ 73 [h0_1, h0_3, I a0.2.2.1.1, I a0.2.2.1.2.1, I a0.2.2.1.2.2.1, I a0.2.2.1.2.2.2.1, I a0.2.2.1.2.2.2.2.1, I a0.2.2.1.2.2.2.2.2, I a0.2.2.2.1, I a0.2.2.2.2.1, I a0.2.2.2.2.2.1, I a0.2.2.2.2.2.2.1, I a0.2.2.2.2.2.2.2.1, I a0.2.2.2.2.2.2.2.2] :: OwnS 45 4 h0_3 (a0.2.1.map cTissi) :: L)) rfl hx25 rfl ?_
      refine TO.ghost (fun _ s => Sat.front 1 rfl s) ?_
      refine TO.ghost (fun _ s => Sat.front 1 rfl s) ?_
      obtain ⟨⟨r28, r29⟩, hc30, hj22⟩ := bind_some hj22
      refine TO.callO kcallB_29_true rfl rfl rfl (fun _ st => C29 (a0 := x24.1)  hc30 st) ?_
      rintro _ _ ⟨r31, v33, rfl, rfl⟩
      refine TO.ghost (fun _ s => Sat.front 3 rfl s) ?_
      refine TO.ghost (fun _ s => Sat.front 2 rfl s) ?_
      refine TO.ghost (fun _ s => Sat.front 2 rfl s) ?_
      obtain ⟨y36, hy37, hj22⟩ := bind_some hj22
      refine TO.closeN (T := nT77) (cs := [.pointer (some ⟨(pq (cv (gr h0_2 x8.toNat) 0)), 0, none⟩), I x24.2]) [.pointer (some ⟨(pq (cv (gr h0_2 x8.toNat) 0)), 0, none⟩), .map (some r31)] (r29, x24.2) rfl rfl hx25 (Option.some.inj hy37) fun hs35 => ?_
      refine TO.pure (fun _ s => Rd.one (OwnS.rd (Ent.at 1 rfl)) s) fun oc38 => ?_
      refine TO.stB (us := [I r28.1, .string r28.2.1, I r28.2.2.1, v33]) 2 [I r28.1, .string r28.2.1, I r28.2.2.1, v33] rfl rfl rfl ksizeB_41_4_true rfl rfl rfl (by intro u hu; simp only [List.mem_cons, List.not_mem_nil, or_false] at hu; rcases hu with rfl | rfl | rfl | rfl <;> first | exact oc38.1 | rfl) rfl ?_
      cases hj22
      refine TO.nil fun a w e s => ?_
      exact ⟨v33, hs35, h0_3, e.sub (lk_of_allIn ⟨rfl, rfl, rfl, rfl, rfl, trivial⟩), s.mono fun _ s => (by exact Sat.by [6, 1, 6, 6, 6, 6, 6] 7 0 (by kernel_rfl) s)⟩
    · replace hj22 := cond_f hc23 hj22
      refine TC.k ?_
      refine TC.region_any (Bx b10 41 [I 0, .string ByteArray.empty, I 0, .slice none 0 0] :: Bx b7 41 [I 0, .string ByteArray.empty, I 0, .slice none 0 0] :: Bx b6 45 [I a2.1, .string a2.2.1, .string a2.2.2.1, I a2.2.2.2] :: Bx b0_ 73 [h0_1, h0_3, I a0.2.2.1.1, I a0.2.2.1.2.1, I a0.2.2.1.2.2.1, I a0.2.2.1.2.2.2.1, I a0.2.2.1.2.2.2.2.1, I a0.2.2.1.2.2.2.2.2, I a0.2.2.2.1, I a0.2.2.2.2.1, I a0.2.2.2.2.2.1, I a0.2.2.2.2.2.2.1, I a0.2.2.2.2.2.2.2.1, I a0.2.2.2.2.2.2.2.2] :: SN 77 2 nT77 h0_1 h0_2 (a0.1) :: L) 10 11 kfollows_mixedOrders_true rfl ?_
      refine TA.takeW 0 rfl rfl rfl rfl (StepS.move rfl) (by kernel_rfl) (by kernel_rfl) (by kernel_rfl) rfl (.inr (fun _ s => Sat.by [4, 4, 4, 4, 4] 5 1 (by kernel_rfl) s)) ?_
      refine TA.takeW 1 rfl rfl rfl rfl (StepS.move rfl) (by kernel_rfl) (by kernel_rfl) (by kernel_rfl) rfl (.inr (fun _ s => Sat.by [4, 4, 4, 4, 4] 5 1 (by kernel_rfl) s)) ?_
      refine TA.takeW 2 rfl rfl rfl rfl (StepS.nilc rfl) (by kernel_rfl) (by kernel_rfl) (by kernel_rfl) rfl (.inr (fun _ s => Sat.by [4, 4, 4, 4, 4] 5 1 (by kernel_rfl) s)) ?_
      refine TA.takeW 3 rfl rfl rfl rfl (StepS.fld rfl kfieldB_73_1_1_true) (by kernel_rfl) (by kernel_rfl) (by kernel_rfl) rfl (.inr (fun _ s => Sat.by [4, 4, 4, 4, 4] 5 1 (by kernel_rfl) s)) ?_
      refine TA.take 4 rfl rfl rfl rfl (StepS.ldB rfl (Ent.at 3 rfl) kscalB_34_true rfl) (by kernel_rfl) (by kernel_rfl) (by kernel_rfl) (by kernel_rfl) (by kernel_rfl) (fun _ s => Sat.by [4, 4, 4, 4, 4] 5 1 (by kernel_rfl) s) ?_
      refine TA.take 5 rfl rfl rfl rfl (StepS.ldBA rfl (Ent.at 2 rfl) kaggB_45_4_true rfl rfl) (by kernel_rfl) (by kernel_rfl) (by kernel_rfl) (by kernel_rfl) (by kernel_rfl) (fun _ s => Sat.by [4, 4, 4, 4, 4] 5 1 (by kernel_rfl) s) ?_
      refine TA.all1 (i := 6) (by kernel_rfl) ?_
      refine TB.of rfl ?_
      refine TO.litS (f := cTissi) ([(a2.1, a2.2.1, a2.2.2.1, a2.2.2.2)] : List (Int × ByteArray × ByteArray × Int)) kelemB_34_45_4_48_true kinfo_45_bind_zero_some_agg_I_0_string_ByteArray_empty_string_ByteArray_empty_I_0 rfl rfl (fun _ => rfl) rfl rfl (by kernel_rfl) rfl fun vq39_6_1 => ?_
      refine TA.back (.inr (fun _ s => Sat.by [5, 5, 5, 5, 5] 5 2 (by kernel_rfl) s)) ?_
      refine TA.asL (L' := (OwnS 45 4 vq39_6_1 (([(a2.1, a2.2.1, a2.2.2.1, a2.2.2.2)] : List (Int × ByteArray × ByteArray × Int)).map cTissi) :: Bx b10 41 [I 0, .string ByteArray.empty, I 0, .slice none 0 0] :: Bx b7 41 [I 0, .string ByteArray.empty, I 0, .slice none 0 0] :: Bx b6 45 [I a2.1, .string a2.2.1, .string a2.2.2.1, I a2.2.2.2] :: Bx b0_ 73 [h0_1, h0_3, I a0.2.2.1.1, I a0.2.2.1.2.1, I a0.2.2.1.2.2.1, I a0.2.2.1.2.2.2.1, I a0.2.2.1.2.2.2.2.1, I a0.2.2.1.2.2.2.2.2, I a0.2.2.2.1, I a0.2.2.2.2.1, I a0.2.2.2.2.2.1, I a0.2.2.2.2.2.2.1, I a0.2.2.2.2.2.2.2.1, I a0.2.2.2.2.2.2.2.2] :: SN 77 2 nT77 h0_1 h0_2 (a0.1) :: OwnS 45 4 h0_3 (a0.2.1.map cTissi) :: L)) (listed' := #[true, true, true, true, true, true, true, false, false, false, false]) (by kernel_rfl) (by kernel_rfl) ?_
      refine TA.all1 (i := 7) (by kernel_rfl) ?_
      refine TB.of rfl ?_
      obtain ⟨yq39_7_1, hkq39_7_2, hj22⟩ := bind_some hj22
      refine TO.app (k := 6) (f := cTissi) kelemB_34_45_4_48_true (by decide) rfl rfl rfl (OwnS.rd (Ent.at 0 rfl)) hkq39_7_2 (fun x c hc => by simp [Value.oneCell'] at hc ⊢; first | (obtain rfl := hc; rfl) | (rcases hc with rfl | rfl | rfl | rfl <;> rfl)) rfl rfl fun vq39_7_3 => ?_
      refine TA.back (.inr (fun _ s => Sat.by [5, 5, 5, 5, 5] 5 2 (by kernel_rfl) s)) ?_
      refine TA.asL (L' := (OwnS 45 4 vq39_6_1 (([(a2.1, a2.2.1, a2.2.2.1, a2.2.2.2)] : List (Int × ByteArray × ByteArray × Int)).map cTissi) :: Bx b10 41 [I 0, .string ByteArray.empty, I 0, .slice none 0 0] :: Bx b7 41 [I 0, .string ByteArray.empty, I 0, .slice none 0 0] :: Bx b6 45 [I a2.1, .string a2.2.1, .string a2.2.2.1, I a2.2.2.2] :: Bx b0_ 73 [h0_1, h0_3, I a0.2.2.1.1, I a0.2.2.1.2.1, I a0.2.2.1.2.2.1, I a0.2.2.1.2.2.2.1, I a0.2.2.1.2.2.2.2.1, I a0.2.2.1.2.2.2.2.2, I a0.2.2.2.1, I a0.2.2.2.2.1, I a0.2.2.2.2.2.1, I a0.2.2.2.2.2.2.1, I a0.2.2.2.2.2.2.2.1, I a0.2.2.2.2.2.2.2.2] :: SN 77 2 nT77 h0_1 h0_2 (a0.1) :: OwnS 45 4 vq39_7_3 (yq39_7_1.map cTissi) :: L)) (listed' := #[true, true, true, true, true, true, true, true, false, false, false]) (by kernel_rfl) (by kernel_rfl) ?_
      refine TA.takeW 8 rfl rfl rfl rfl (StepS.nilc rfl) (by kernel_rfl) (by kernel_rfl) (by kernel_rfl) rfl (.inr (fun _ s => Sat.by [5, 5, 5, 5, 5] 5 2 (by kernel_rfl) s)) ?_
      refine TA.takeW 9 rfl rfl rfl rfl (StepS.fld rfl kfieldB_73_1_1_true) (by kernel_rfl) (by kernel_rfl) (by kernel_rfl) rfl (.inr (fun _ s => Sat.by [5, 5, 5, 5, 5] 5 2 (by kernel_rfl) s)) ?_
      refine TA.all1 (i := 10) (by kernel_rfl) ?_
      refine TB.of rfl ?_
      refine TO.pure (fun _ s => Rd.one (OwnS.rd (Ent.at 6 rfl)) s) fun ocq39_10_1 => ?_
      refine TO.stB (us := [vq39_7_3]) 4 [h0_1, vq39_7_3, I a0.2.2.1.1, I a0.2.2.1.2.1, I a0.2.2.1.2.2.1, I a0.2.2.1.2.2.2.1, I a0.2.2.1.2.2.2.2.1, I a0.2.2.1.2.2.2.2.2, I a0.2.2.2.1, I a0.2.2.2.2.1, I a0.2.2.2.2.2.1, I a0.2.2.2.2.2.2.1, I a0.2.2.2.2.2.2.2.1, I a0.2.2.2.2.2.2.2.2] rfl rfl rfl ksizeB_34_1_true ocq39_10_1.2 rfl rfl (by intro u hu; simp only [List.mem_cons, List.not_mem_nil, or_false] at hu; rcases hu with rfl <;> first | exact ocq39_10_1.1 | rfl) rfl ?_
      refine TA.back (.inl (by kernel_rfl)) ?_
      refine TA.asL (L' := (OwnS 45 4 vq39_6_1 (([(a2.1, a2.2.1, a2.2.2.1, a2.2.2.2)] : List (Int × ByteArray × ByteArray × Int)).map cTissi) :: Bx b10 41 [I 0, .string ByteArray.empty, I 0, .slice none 0 0] :: Bx b7 41 [I 0, .string ByteArray.empty, I 0, .slice none 0 0] :: Bx b6 45 [I a2.1, .string a2.2.1, .string a2.2.2.1, I a2.2.2.2] :: Bx b0_ 73 [h0_1, vq39_7_3, I a0.2.2.1.1, I a0.2.2.1.2.1, I a0.2.2.1.2.2.1, I a0.2.2.1.2.2.2.1, I a0.2.2.1.2.2.2.2.1, I a0.2.2.1.2.2.2.2.2, I a0.2.2.2.1, I a0.2.2.2.2.1, I a0.2.2.2.2.2.1, I a0.2.2.2.2.2.2.1, I a0.2.2.2.2.2.2.2.1, I a0.2.2.2.2.2.2.2.2] :: SN 77 2 nT77 h0_1 h0_2 (a0.1) :: OwnS 45 4 vq39_7_3 (yq39_7_1.map cTissi) :: L)) (listed' := #[true, true, true, true, true, true, true, true, true, true, true]) (by kernel_rfl) (by kernel_rfl) ?_
      refine TA.code (by kernel_rfl) ?_
      refine TC.region ?_
      refine TO.s rfl rfl rfl (StepS.move rfl) ?_
      refine TO.s rfl rfl rfl (StepS.move rfl) ?_
      refine TO.s rfl rfl rfl (StepS.move rfl) ?_
      refine TO.s rfl rfl rfl (StepS.nilc rfl) ?_
      refine TO.s rfl rfl rfl (StepS.fld rfl kfieldB_73_1_1_true) ?_
      refine TO.s rfl rfl rfl (StepS.ldB rfl (Ent.at 4 rfl) kscalB_34_true rfl) ?_
      refine TO.s rfl rfl rfl (StepS.lenm rfl (OwnS.rd (Ent.at 6 rfl)) ksliceB_34_45_4_true rfl) ?_
      refine TO.ghost (fun _ s => Sat.front 6 rfl s) ?_
      refine TO.ghost (fun _ s => Sat.front 6 rfl s) ?_
      refine TO.ghost (fun _ s => Sat.front 6 rfl s) ?_
      obtain ⟨⟨r40, r41⟩, hc42, hj22⟩ := bind_some hj22
      refine TO.callO kcallB_34_true rfl rfl rfl (fun _ st => C34 (a0 := (a0.1, yq39_7_1))  hc42 st) ?_
      rintro _ _ ⟨hs43, v46, rfl, rfl⟩
      refine TO.pure (fun _ s => Rd.one (OwnS.rd (Ent.at 3 rfl)) s) fun oc48 => ?_
      refine TO.stB (us := [I r40.1, .string r40.2.1, I r40.2.2.1, v46]) 5 [I r40.1, .string r40.2.1, I r40.2.2.1, v46] rfl rfl rfl ksizeB_41_4_true rfl rfl rfl (by intro u hu; simp only [List.mem_cons, List.not_mem_nil, or_false] at hu; rcases hu with rfl | rfl | rfl | rfl <;> first | exact oc48.1 | rfl) rfl ?_
      cases hj22
      refine TO.nil fun a w e s => ?_
      exact ⟨v46, hs43, vq39_7_3, e.sub (lk_of_allIn ⟨rfl, rfl, rfl, rfl, rfl, trivial⟩), s.mono fun _ s => (by exact Sat.by [2, 2, 2, 7, 7, 7, 6] 7 1 (by kernel_rfl) s)⟩
  · intro a w ⟨v12, hs16, v18, he, hs⟩
    refine TC.use ?_ he hs
    refine TC.k ?_
    refine TC.region_tail 13 kfollows_mixedOrders_true (by kernel_rfl) ?_
    refine TS.s rfl rfl rfl (StepS.move rfl) ?_
    refine TS.s rfl rfl rfl (StepS.move rfl) ?_
    refine TS.s rfl rfl rfl (StepS.move rfl) ?_
    refine TS.s rfl rfl rfl (StepS.nilc rfl) ?_
    refine TS.s rfl rfl rfl (StepS.fld rfl kfieldB_73_0_0_true) ?_
    refine TS.s rfl rfl rfl (StepS.ldB rfl (Ent.at 4 rfl) kscalB_70_true rfl) ?_
    refine TS.s rfl rfl rfl (StepS.move rfl) ?_
    obtain ⟨x49, hx50, hm⟩ := bind_some hm
    refine TS.s rfl rfl rfl (StepS.idxN rfl rfl (Ent.at 5 rfl) ksliceB_70_77_2_true hx50) ?_
    refine TS.s rfl rfl rfl (StepS.ptrf rfl kfieldB_77_1_1_true) ?_
    refine TS.s rfl rfl rfl (StepS.ldN (j := 1) rfl (Ent.at 5 rfl) kscalB_3_true hx50 rfl rfl) ?_
    refine TS.s rfl rfl rfl (StepS.nilc rfl) ?_
    refine TS.s rfl rfl rfl (StepS.fld rfl kfieldB_73_3_8_true) ?_
    obtain ⟨x51, hx52, hm⟩ := bind_some hm
    refine TS.s rfl rfl rfl (StepS.aidx (j := a1.toNat * 1) rfl rfl karrB_71_6_3_1_true ⟨(idx_spec hx52).1, idx_lt hx52⟩ rfl) ?_
    refine TS.nil ?_
    refine TO.at ?_
    obtain ⟨z53, hz54, hm⟩ := bind_some hm
    refine TO.stD (i := a1) (sz := 1) (j := 0) (us := [I x49.2]) (cs' := [h0_1, v18, I a0.2.2.1.1, I a0.2.2.1.2.1, I a0.2.2.1.2.2.1, I a0.2.2.1.2.2.2.1, I a0.2.2.1.2.2.2.2.1, I a0.2.2.1.2.2.2.2.2, I z53.1, I z53.2.1, I z53.2.2.1, I z53.2.2.2.1, I z53.2.2.2.2.1, I z53.2.2.2.2.2]) 4 [h0_1, v18, I a0.2.2.1.1, I a0.2.2.1.2.1, I a0.2.2.1.2.2.1, I a0.2.2.1.2.2.2.1, I a0.2.2.1.2.2.2.2.1, I a0.2.2.1.2.2.2.2.2] [] (f := cI) (xs := tl6 a0.2.2.2) (xs' := tl6 z53) (y0 := x51) (y1 := x49.2) rfl rfl rfl ksizeB_3_1_true rfl rfl (by simp [Value.oneCell']) rfl (by simp only [List.length_cons, List.length_nil] <;> omega) (fun _ => rfl) hx52 rfl rfl (as6_spec hz54) rfl ?_
    refine TO.code ?_
    refine TC.k ?_
    refine TC.region ?_
    refine TO.s rfl rfl rfl (StepS.ldBA rfl (Ent.at 1 rfl) kaggB_41_4_true rfl rfl) ?_
    refine TO.pure (fun _ s => Rd.one (OwnS.rd (Ent.at 0 rfl)) s) fun oc55 => ?_
    refine TO.stB (us := [I x19, .string t20, I x21, v12]) 2 [I x19, .string t20, I x21, v12] rfl rfl rfl ksizeB_41_4_true rfl rfl rfl (by intro u hu; simp only [List.mem_cons, List.not_mem_nil, or_false] at hu; rcases hu with rfl | rfl | rfl | rfl <;> first | exact oc55.1 | rfl) rfl ?_
    refine TO.code ?_
    cases hm
    refine TC.ret fun a w e s => ?_
    refine FRet.cell1 (P := Tryd.prog) (fn := Tryd.f33) e s rfl rfl (Ent.at 2 rfl) kaggB_41_4_true rfl ?_
    refine ⟨_, _, rfl, ⟨(hs16), (v18), (v12), rfl, rfl⟩, ?_⟩
    refine s.mono fun _ s => ?_
    replace s := Sat.front 0 rfl s
    replace s := Sat.front 6 rfl s
    replace s := Sat.front 6 rfl s
    replace s := Sat.front 6 rfl s
    replace s := Sat.erase 4 s
    replace s := Sat.erase 4 s
    replace s := Sat.erase 4 s
    exact s

set_option maxHeartbeats 1000000 in
set_option maxRecDepth 100000 in
theorem C27 {B : World} {L : List HP} {a0 : (List ((ByteArray → Option (ByteArray × Int)) × Int)) × (List (Int × ByteArray × ByteArray × Int)) × (T6 Int) × T6 Int} {a1 : Int × Int × Int × Int × ByteArray × ByteArray × Int} {b0_ : Nat} {h0_1 : Value} {h0_2 : List (List Value)} {h0_3 : Value} {r0 : Int × ByteArray × Int × List ByteArray} {s0 : (List ((ByteArray → Option (ByteArray × Int)) × Int)) × (List (Int × ByteArray × ByteArray × Int)) × (T6 Int) × T6 Int} (hm : F27 a0 a1 = some (r0, s0)) {w : World} (st : St B (Bx b0_ 73 [h0_1, h0_3, I a0.2.2.1.1, I a0.2.2.1.2.1, I a0.2.2.1.2.2.1, I a0.2.2.1.2.2.2.1, I a0.2.2.1.2.2.2.2.1, I a0.2.2.1.2.2.2.2.2, I a0.2.2.2.1, I a0.2.2.2.2.1, I a0.2.2.2.2.2.1, I a0.2.2.2.2.2.2.1, I a0.2.2.2.2.2.2.2.1, I a0.2.2.2.2.2.2.2.2] :: SN 77 2 nT77 h0_1 h0_2 (a0.1) :: OwnS 45 4 h0_3 (a0.2.1.map cTissi) :: L) w) : Calls Tryd.prog 27 #[.pointer (some ⟨b0_, 0, none⟩), .agg (cTiiiissi a1).toArray] w (fun e w' => ∃ v M, e = .returned v ∧ (∃ (qhs1 : List (List Value)) (qv2 : Value) (qv3 : Value), v = .agg #[I r0.1, .string r0.2.1, I r0.2.2.1, qv3] ∧ M = (Bx b0_ 73 [h0_1, qv2, I s0.2.2.1.1, I s0.2.2.1.2.1, I s0.2.2.1.2.2.1, I s0.2.2.1.2.2.2.1, I s0.2.2.1.2.2.2.2.1, I s0.2.2.1.2.2.2.2.2, I s0.2.2.2.1, I s0.2.2.2.2.1, I s0.2.2.2.2.2.1, I s0.2.2.2.2.2.2.1, I s0.2.2.2.2.2.2.2.1, I s0.2.2.2.2.2.2.2.2] :: SN 77 2 nT77 h0_1 qhs1 (s0.1) :: OwnS 45 4 qv2 (s0.2.1.map cTissi) :: OwnS 9 1 qv3 (r0.2.2.2.map cS) :: L)) ∧ St B M w') := by
  refine calls_of (N := 190) (L := (Bx b0_ 73 [h0_1, h0_3, I a0.2.2.1.1, I a0.2.2.1.2.1, I a0.2.2.1.2.2.1, I a0.2.2.1.2.2.2.1, I a0.2.2.1.2.2.2.2.1, I a0.2.2.1.2.2.2.2.2, I a0.2.2.2.1, I a0.2.2.2.2.1, I a0.2.2.2.2.2.1, I a0.2.2.2.2.2.2.1, I a0.2.2.2.2.2.2.2.1, I a0.2.2.2.2.2.2.2.2] :: SN 77 2 nT77 h0_1 h0_2 (a0.1) :: OwnS 45 4 h0_3 (a0.2.1.map cTissi) :: L)) (args := [.pointer (some ⟨b0_, 0, none⟩), .agg (cTiiiissi a1).toArray]) Tryd.func27 rfl rfl rfl ?_ st
  dsimp only [F27] at hm
  refine TC.k ?_
  refine TC.region ?_
  refine TO.box (cs := [I a1.1, I a1.2.1, I a1.2.2.1, I a1.2.2.2.1, .string a1.2.2.2.2.1, .string a1.2.2.2.2.2.1, I a1.2.2.2.2.2.2]) rfl rfl rfl fun b6 => ?_
  refine TO.alloc kinfo_41_bind_zero_some_agg_I_0_string_ByteArray_empty_I_0_slice_none_0_0 rfl rfl fun b7 => ?_
  refine TO.code ?_
  refine TC.k ?_
  refine TC.region ?_
  refine TO.s rfl rfl rfl (StepS.fld rfl kfieldB_47_1_1_true) ?_
  refine TO.s rfl rfl rfl (StepS.ldB rfl (Ent.at 1 rfl) kscalB_3_true rfl) ?_
  refine TO.s rfl rfl rfl (StepS.cmp rfl rfl rfl) ?_
  refine TO.s rfl rfl rfl (StepS.move rfl) ?_
  refine TO.mid1 4 14 (.bool ((decide (a1.2.1 ≥ 0)) && (decide (a1.2.1 < 6)))) ?_ ?_
  · refine bcase ((decide (a1.2.1 ≥ 0))) (fun hb8 => ?_) (fun hb8 => ?_)
    · refine TO.sw rfl rfl rfl hb8 rfl rfl (StepS.fld rfl kfieldB_47_1_1_true) ?_
      refine TO.sw rfl rfl rfl hb8 rfl rfl (StepS.ldB rfl (Ent.at 1 rfl) kscalB_3_true rfl) ?_
      refine TO.sw rfl rfl rfl hb8 rfl rfl (StepS.cmp rfl rfl rfl) ?_
      refine TO.s rfl rfl rfl (StepS.pickT rfl hb8 rfl) ?_
      exact TO.up1 4 0 rfl rfl (by rw [hb8]; rfl) rfl
    · refine TO.skip rfl rfl rfl (skipF hb8) rfl rfl ?_
      refine TO.skip rfl rfl rfl (skipF hb8) rfl rfl ?_
      refine TO.skip rfl rfl rfl (skipF hb8) rfl rfl ?_
      refine TO.s rfl rfl rfl (StepS.pickF rfl hb8 rfl) ?_
      exact TO.up1 4 0 rfl rfl (by rw [hb8]; rfl) rfl
  refine TO.s rfl rfl rfl (StepS.assign rfl) ?_
  refine TO.code ?_
  refine TC.k ?_
  refine TC.region_still kfollows_mixedOrders_true (by kernel_rfl) ?_
  refine TS.s rfl rfl rfl (StepS.fld rfl kfieldB_47_2_2_true) ?_
  refine TS.s rfl rfl rfl (StepS.ldB rfl (Ent.at 1 rfl) kscalB_3_true rfl) ?_
  refine TS.s rfl rfl rfl (StepS.cmp rfl rfl rfl) ?_
  refine TS.s rfl rfl rfl (StepS.move rfl) ?_
  refine TS.mid1 9 27 (.bool ((decide (a1.2.2.1 ≥ 0)) && (decide (a1.2.2.1 < (a0.1.length : Int))))) ?_ ?_
  · refine bcase ((decide (a1.2.2.1 ≥ 0))) (fun hb9 => ?_) (fun hb9 => ?_)
    · refine TS.sw rfl rfl rfl hb9 rfl rfl (StepS.fld rfl kfieldB_47_2_2_true) ?_
      refine TS.sw rfl rfl rfl hb9 rfl rfl (StepS.ldB rfl (Ent.at 1 rfl) kscalB_3_true rfl) ?_
      refine TS.sw rfl rfl rfl hb9 rfl rfl (StepS.move rfl) ?_
      refine TS.sw rfl rfl rfl hb9 rfl rfl (StepS.nilc rfl) ?_
      refine TS.sw rfl rfl rfl hb9 rfl rfl (StepS.fld rfl kfieldB_73_0_0_true) ?_
      refine TS.sw rfl rfl rfl hb9 rfl rfl (StepS.ldB rfl (Ent.at 2 rfl) kscalB_70_true rfl) ?_
      refine TS.sw rfl rfl rfl hb9 rfl rfl (StepS.lenN rfl (Ent.at 3 rfl) ksliceB_70_77_2_true rfl) ?_
      refine TS.sw rfl rfl rfl hb9 rfl rfl (StepS.cmp rfl rfl rfl) ?_
      refine TS.s rfl rfl rfl (StepS.pickT rfl hb9 rfl) ?_
      exact TS.up1 9 0 rfl rfl (by rw [hb9]; rfl) rfl
    · refine TS.skip rfl rfl rfl (skipF hb9) rfl rfl ?_
      refine TS.skip rfl rfl rfl (skipF hb9) rfl rfl ?_
      refine TS.skip rfl rfl rfl (skipF hb9) rfl rfl ?_
      refine TS.skip rfl rfl rfl (skipF hb9) rfl rfl ?_
      refine TS.skip rfl rfl rfl (skipF hb9) rfl rfl ?_
      refine TS.skip rfl rfl rfl (skipF hb9) rfl rfl ?_
      refine TS.skip rfl rfl rfl (skipF hb9) rfl rfl ?_
      refine TS.skip rfl rfl rfl (skipF hb9) rfl rfl ?_
      refine TS.s rfl rfl rfl (StepS.pickF rfl hb9 rfl) ?_
      exact TS.up1 9 0 rfl rfl (by rw [hb9]; rfl) rfl
  refine TS.s rfl rfl rfl (StepS.assign rfl) ?_
  refine TS.code ?_
  refine TC.k ?_
  refine TC.block ?_
  refine TC.k ?_
  refine TC.region ?_
  refine TO.s rfl rfl rfl (StepS.fld rfl kfieldB_47_0_0_true) ?_
  refine TO.s rfl rfl rfl (StepS.ldB rfl (Ent.at 1 rfl) kscalB_3_true rfl) ?_
  refine TO.s rfl rfl rfl (StepS.cmp rfl rfl rfl) ?_
  refine TO.s rfl rfl rfl (StepS.move rfl) ?_
  refine TO.mid1 4 61 (.bool ((decide (a1.1 < 1)) || (decide (a1.1 > 4)))) ?_ ?_
  · refine bcase ((decide (a1.1 < 1))) (fun hb10 => ?_) (fun hb10 => ?_)
    · refine TO.skip rfl rfl rfl (skipT hb10) rfl rfl ?_
      refine TO.skip rfl rfl rfl (skipT hb10) rfl rfl ?_
      refine TO.skip rfl rfl rfl (skipT hb10) rfl rfl ?_
      refine TO.s rfl rfl rfl (StepS.pickT rfl hb10 rfl) ?_
      exact TO.up1 4 0 rfl rfl (by rw [hb10]; rfl) rfl
    · refine TO.sw rfl rfl rfl hb10 rfl rfl (StepS.fld rfl kfieldB_47_0_0_true) ?_
      refine TO.sw rfl rfl rfl hb10 rfl rfl (StepS.ldB rfl (Ent.at 1 rfl) kscalB_3_true rfl) ?_
      refine TO.sw rfl rfl rfl hb10 rfl rfl (StepS.cmp rfl rfl rfl) ?_
      refine TO.s rfl rfl rfl (StepS.pickF rfl hb10 rfl) ?_
      exact TO.up1 4 0 rfl rfl (by rw [hb10]; rfl) rfl
  refine TO.s rfl rfl rfl (StepS.move rfl) ?_
  refine TO.mid1 16 78 (.bool (((decide (a1.1 < 1)) || (decide (a1.1 > 4))) || ((a1.1 == 1) && ((decide (a1.2.2.2.1 < 1)) || (decide (a1.2.2.2.1 > 5)))))) ?_ ?_
  · refine bcase (((decide (a1.1 < 1)) || (decide (a1.1 > 4)))) (fun hb11 => ?_) (fun hb11 => ?_)
    · refine TO.skip rfl rfl rfl (skipT hb11) rfl rfl ?_
      refine TO.skip rfl rfl rfl (skipT hb11) rfl rfl ?_
      refine TO.skip rfl rfl rfl (skipT hb11) rfl rfl ?_
      refine TO.skip rfl rfl rfl (skipT hb11) rfl rfl ?_
      refine TO.skip rfl rfl rfl skipU rfl rfl ?_
      refine TO.skip rfl rfl rfl skipU rfl rfl ?_
      refine TO.skip rfl rfl rfl skipU rfl rfl ?_
      refine TO.skip rfl rfl rfl skipU rfl rfl ?_
      refine TO.skip rfl rfl rfl skipU rfl rfl ?_
      refine TO.skip rfl rfl rfl skipU rfl rfl ?_
      refine TO.skip rfl rfl rfl skipU rfl rfl ?_
      refine TO.skip rfl rfl rfl skipU rfl rfl ?_
      refine TO.skip rfl rfl rfl skipU rfl rfl ?_
      refine TO.skip rfl rfl rfl skipU rfl rfl ?_
      refine TO.skip rfl rfl rfl (skipT hb11) rfl rfl ?_
      refine TO.s rfl rfl rfl (StepS.pickT rfl hb11 rfl) ?_
      exact TO.up1 16 0 rfl rfl (by rw [hb11]; rfl) rfl
    · refine TO.sw rfl rfl rfl hb11 rfl rfl (StepS.fld rfl kfieldB_47_0_0_true) ?_
      refine TO.sw rfl rfl rfl hb11 rfl rfl (StepS.ldB rfl (Ent.at 1 rfl) kscalB_3_true rfl) ?_
      refine TO.sw rfl rfl rfl hb11 rfl rfl (StepS.cmp rfl rfl rfl) ?_
      refine TO.sw rfl rfl rfl hb11 rfl rfl (StepS.move rfl) ?_
      refine TO.mid1 11 77 (.bool ((a1.1 == 1) && ((decide (a1.2.2.2.1 < 1)) || (decide (a1.2.2.2.1 > 5))))) ?_ ?_
      · refine bcase ((a1.1 == 1)) (fun hb12 => ?_) (fun hb12 => ?_)
        · refine TO.sw rfl rfl rfl hb12 rfl rfl (StepS.fld rfl kfieldB_47_3_3_true) ?_
          refine TO.sw rfl rfl rfl hb12 rfl rfl (StepS.fld rfl kfieldB_45_0_0_true) ?_
          refine TO.sw rfl rfl rfl hb12 rfl rfl (StepS.ldB rfl (Ent.at 1 rfl) kscalB_3_true rfl) ?_
          refine TO.sw rfl rfl rfl hb12 rfl rfl (StepS.cmp rfl rfl rfl) ?_
          refine TO.sw rfl rfl rfl hb12 rfl rfl (StepS.move rfl) ?_
          refine TO.mid1 5 76 (.bool ((decide (a1.2.2.2.1 < 1)) || (decide (a1.2.2.2.1 > 5)))) ?_ ?_
          · refine bcase ((decide (a1.2.2.2.1 < 1))) (fun hb13 => ?_) (fun hb13 => ?_)
            · refine TO.skip rfl rfl rfl (skipT hb13) rfl rfl ?_
              refine TO.skip rfl rfl rfl (skipT hb13) rfl rfl ?_
              refine TO.skip rfl rfl rfl (skipT hb13) rfl rfl ?_
              refine TO.skip rfl rfl rfl (skipT hb13) rfl rfl ?_
              refine TO.sw rfl rfl rfl hb12 rfl rfl (StepS.pickT rfl hb13 rfl) ?_
              exact TO.up1 5 0 rfl rfl (by rw [hb13]; rfl) rfl
            · refine TO.sw rfl rfl rfl hb13 rfl rfl (StepS.fld rfl kfieldB_47_3_3_true) ?_
              refine TO.sw rfl rfl rfl hb13 rfl rfl (StepS.fld rfl kfieldB_45_0_0_true) ?_
              refine TO.sw rfl rfl rfl hb13 rfl rfl (StepS.ldB rfl (Ent.at 1 rfl) kscalB_3_true rfl) ?_
              refine TO.sw rfl rfl rfl hb13 rfl rfl (StepS.cmp rfl rfl rfl) ?_
              refine TO.sw rfl rfl rfl hb12 rfl rfl (StepS.pickF rfl hb13 rfl) ?_
              exact TO.up1 5 0 rfl rfl (by rw [hb13]; rfl) rfl
          refine TO.sw rfl rfl rfl hb11 rfl rfl (StepS.pickT rfl hb12 rfl) ?_
          exact TO.up1 7 0 rfl rfl (by rw [hb12]; rfl) rfl
        · refine TO.skip rfl rfl rfl (skipF hb12) rfl rfl ?_
          refine TO.skip rfl rfl rfl (skipF hb12) rfl rfl ?_
          refine TO.skip rfl rfl rfl (skipF hb12) rfl rfl ?_
          refine TO.skip rfl rfl rfl (skipF hb12) rfl rfl ?_
          refine TO.skip rfl rfl rfl (skipF hb12) rfl rfl ?_
          refine TO.skip rfl rfl rfl skipU rfl rfl ?_
          refine TO.skip rfl rfl rfl skipU rfl rfl ?_
          refine TO.skip rfl rfl rfl skipU rfl rfl ?_
          refine TO.skip rfl rfl rfl skipU rfl rfl ?_
          refine TO.skip rfl rfl rfl (skipF hb12) rfl rfl ?_
          refine TO.sw rfl rfl rfl hb11 rfl rfl (StepS.pickF rfl hb12 rfl) ?_
          exact TO.up1 11 0 rfl rfl (by rw [hb12]; rfl) rfl
      refine TO.s rfl rfl rfl (StepS.pickF rfl hb11 rfl) ?_
      exact TO.up1 6 0 rfl rfl (by rw [hb11]; rfl) rfl
  refine TO.s rfl rfl rfl (StepS.assign rfl) ?_
  refine TO.code ?_
  refine TC.cond rfl (fun hc14 => ?_) (fun hc14 => ?_)
  · replace hm := cond_t hc14 hm
    refine TC.k ?_
    refine TC.region ?_
    refine TO.s rfl rfl rfl (StepS.build (cs := [I 6, .string ByteArray.empty, I 0, .slice none 0 0]) rfl (by kernel_rfl)) ?_
    refine TO.stB (us := [I 6, .string ByteArray.empty, I 0, .slice none 0 0]) 0 [I 6, .string ByteArray.empty, I 0, .slice none 0 0] rfl rfl rfl ksizeB_41_4_true rfl rfl rfl (by simp [Value.oneCell']) rfl ?_
    refine TO.code ?_
    cases hm
    refine TC.ret fun a w e s => ?_
    refine FRet.cell1 (P := Tryd.prog) (fn := Tryd.f27) e s rfl rfl (Ent.at 0 rfl) kaggB_41_4_true rfl ?_
    refine ⟨_, _, rfl, ⟨(h0_2), (h0_3), (.slice none 0 0), rfl, rfl⟩, ?_⟩
    refine s.mono fun _ s => ?_
    replace s := Sat.nilS (e := 9) (sz := 1) (f := cS) s
    replace s := Sat.front 5 rfl s
    replace s := Sat.front 5 rfl s
    replace s := Sat.front 5 rfl s
    replace s := Sat.erase 4 s
    replace s := Sat.erase 4 s
    exact s
  · replace hm := cond_f hc14 hm
    refine TC.k ?_
    refine TC.region ?_
    refine TO.s rfl rfl rfl (StepS.fld rfl kfieldB_47_0_0_true) ?_
    refine TO.s rfl rfl rfl (StepS.ldB rfl (Ent.at 1 rfl) kscalB_3_true rfl) ?_
    refine TO.s rfl rfl rfl (StepS.cmp rfl rfl rfl) ?_
    refine TO.s rfl rfl rfl (StepS.move rfl) ?_
    refine TO.mid1 3 87 (.bool ((a1.1 != 2) && (!((decide (a1.2.1 ≥ 0)) && (decide (a1.2.1 < 6)))))) ?_ ?_
    · refine bcase ((a1.1 != 2)) (fun hb15 => ?_) (fun hb15 => ?_)
      · refine TO.sw rfl rfl rfl hb15 rfl rfl (StepS.move rfl) ?_
        refine TO.sw rfl rfl rfl hb15 rfl rfl (StepS.not rfl) ?_
        refine TO.s rfl rfl rfl (StepS.pickT rfl hb15 rfl) ?_
        exact TO.up1 3 0 rfl rfl (by rw [hb15]; rfl) rfl
      · refine TO.skip rfl rfl rfl (skipF hb15) rfl rfl ?_
        refine TO.skip rfl rfl rfl (skipF hb15) rfl rfl ?_
        refine TO.s rfl rfl rfl (StepS.pickF rfl hb15 rfl) ?_
        exact TO.up1 3 0 rfl rfl (by rw [hb15]; rfl) rfl
    refine TO.s rfl rfl rfl (StepS.move rfl) ?_
    refine TO.mid1 13 101 (.bool (((a1.1 != 2) && (!((decide (a1.2.1 ≥ 0)) && (decide (a1.2.1 < 6))))) || (((a1.1 == 2) || (a1.1 == 3)) && (!((decide (a1.2.2.1 ≥ 0)) && (decide (a1.2.2.1 < (a0.1.length : Int)))))))) ?_ ?_
    · refine bcase (((a1.1 != 2) && (!((decide (a1.2.1 ≥ 0)) && (decide (a1.2.1 < 6)))))) (fun hb16 => ?_) (fun hb16 => ?_)
      · refine TO.skip rfl rfl rfl (skipT hb16) rfl rfl ?_
        refine TO.skip rfl rfl rfl (skipT hb16) rfl rfl ?_
        refine TO.skip rfl rfl rfl (skipT hb16) rfl rfl ?_
        refine TO.skip rfl rfl rfl (skipT hb16) rfl rfl ?_
        refine TO.skip rfl rfl rfl skipU rfl rfl ?_
        refine TO.skip rfl rfl rfl skipU rfl rfl ?_
        refine TO.skip rfl rfl rfl skipU rfl rfl ?_
        refine TO.skip rfl rfl rfl (skipT hb16) rfl rfl ?_
        refine TO.skip rfl rfl rfl (skipT hb16) rfl rfl ?_
        refine TO.skip rfl rfl rfl skipU rfl rfl ?_
        refine TO.skip rfl rfl rfl skipU rfl rfl ?_
        refine TO.skip rfl rfl rfl (skipT hb16) rfl rfl ?_
        refine TO.s rfl rfl rfl (StepS.pickT rfl hb16 rfl) ?_
        exact TO.up1 13 0 rfl rfl (by rw [hb16]; rfl) rfl
      · refine TO.sw rfl rfl rfl hb16 rfl rfl (StepS.fld rfl kfieldB_47_0_0_true) ?_
        refine TO.sw rfl rfl rfl hb16 rfl rfl (StepS.ldB rfl (Ent.at 1 rfl) kscalB_3_true rfl) ?_
        refine TO.sw rfl rfl rfl hb16 rfl rfl (StepS.cmp rfl rfl rfl) ?_
        refine TO.sw rfl rfl rfl hb16 rfl rfl (StepS.move rfl) ?_
        refine TO.mid1 4 96 (.bool ((a1.1 == 2) || (a1.1 == 3))) ?_ ?_
        · refine bcase ((a1.1 == 2)) (fun hb17 => ?_) (fun hb17 => ?_)
          · refine TO.skip rfl rfl rfl (skipT hb17) rfl rfl ?_
            refine TO.skip rfl rfl rfl (skipT hb17) rfl rfl ?_
            refine TO.skip rfl rfl rfl (skipT hb17) rfl rfl ?_
            refine TO.sw rfl rfl rfl hb16 rfl rfl (StepS.pickT rfl hb17 rfl) ?_
            exact TO.up1 4 0 rfl rfl (by rw [hb17]; rfl) rfl
          · refine TO.sw rfl rfl rfl hb17 rfl rfl (StepS.fld rfl kfieldB_47_0_0_true) ?_
            refine TO.sw rfl rfl rfl hb17 rfl rfl (StepS.ldB rfl (Ent.at 1 rfl) kscalB_3_true rfl) ?_
            refine TO.sw rfl rfl rfl hb17 rfl rfl (StepS.cmp rfl rfl rfl) ?_
            refine TO.sw rfl rfl rfl hb16 rfl rfl (StepS.pickF rfl hb17 rfl) ?_
            exact TO.up1 4 0 rfl rfl (by rw [hb17]; rfl) rfl
        refine TO.sw rfl rfl rfl hb16 rfl rfl (StepS.move rfl) ?_
        refine TO.mid1 3 100 (.bool (((a1.1 == 2) || (a1.1 == 3)) && (!((decide (a1.2.2.1 ≥ 0)) && (decide (a1.2.2.1 < (a0.1.length : Int))))))) ?_ ?_
        · refine bcase (((a1.1 == 2) || (a1.1 == 3))) (fun hb18 => ?_) (fun hb18 => ?_)
          · refine TO.sw rfl rfl rfl hb18 rfl rfl (StepS.move rfl) ?_
            refine TO.sw rfl rfl rfl hb18 rfl rfl (StepS.not rfl) ?_
            refine TO.sw rfl rfl rfl hb16 rfl rfl (StepS.pickT rfl hb18 rfl) ?_
            exact TO.up1 3 0 rfl rfl (by rw [hb18]; rfl) rfl
          · refine TO.skip rfl rfl rfl (skipF hb18) rfl rfl ?_
            refine TO.skip rfl rfl rfl (skipF hb18) rfl rfl ?_
            refine TO.sw rfl rfl rfl hb16 rfl rfl (StepS.pickF rfl hb18 rfl) ?_
            exact TO.up1 3 0 rfl rfl (by rw [hb18]; rfl) rfl
        refine TO.s rfl rfl rfl (StepS.pickF rfl hb16 rfl) ?_
        exact TO.up1 8 0 rfl rfl (by rw [hb16]; rfl) rfl
    refine TO.s rfl rfl rfl (StepS.assign rfl) ?_
    refine TO.code ?_
    refine TC.cond rfl (fun hc19 => ?_) (fun hc19 => ?_)
    · replace hm := cond_t hc19 hm
      refine TC.k ?_
      refine TC.region ?_
      refine TO.s rfl rfl rfl (StepS.build (cs := [I 2, .string ByteArray.empty, I 0, .slice none 0 0]) rfl (by kernel_rfl)) ?_
      refine TO.stB (us := [I 2, .string ByteArray.empty, I 0, .slice none 0 0]) 0 [I 2, .string ByteArray.empty, I 0, .slice none 0 0] rfl rfl rfl ksizeB_41_4_true rfl rfl rfl (by simp [Value.oneCell']) rfl ?_
      refine TO.code ?_
      cases hm
      refine TC.ret fun a w e s => ?_
      refine FRet.cell1 (P := Tryd.prog) (fn := Tryd.f27) e s rfl rfl (Ent.at 0 rfl) kaggB_41_4_true rfl ?_
      refine ⟨_, _, rfl, ⟨(h0_2), (h0_3), (.slice none 0 0), rfl, rfl⟩, ?_⟩
      refine s.mono fun _ s => ?_
      replace s := Sat.nilS (e := 9) (sz := 1) (f := cS) s
      replace s := Sat.front 5 rfl s
      replace s := Sat.front 5 rfl s
      replace s := Sat.front 5 rfl s
      replace s := Sat.erase 4 s
      replace s := Sat.erase 4 s
      exact s
    · replace hm := cond_f hc19 hm
      refine TC.k ?_
      refine TC.region ?_
      refine TO.s rfl rfl rfl (StepS.fld rfl kfieldB_47_0_0_true) ?_
      refine TO.s rfl rfl rfl (StepS.ldB rfl (Ent.at 1 rfl) kscalB_3_true rfl) ?_
      refine TO.s rfl rfl rfl (StepS.cmp rfl rfl rfl) ?_
      refine TO.s rfl rfl rfl (StepS.assign rfl) ?_
      refine TO.code ?_
      refine TC.cond rfl (fun hc20 => ?_) (fun hc20 => ?_)
      · replace hm := cond_t hc20 hm
        refine TC.k ?_
        refine TC.region ?_
        refine TO.s rfl rfl rfl (StepS.move rfl) ?_
        refine TO.s rfl rfl rfl (StepS.fld rfl kfieldB_47_1_1_true) ?_
        refine TO.s rfl rfl rfl (StepS.ldB rfl (Ent.at 1 rfl) kscalB_3_true rfl) ?_
        refine TO.s rfl rfl rfl (StepS.fld rfl kfieldB_47_3_3_true) ?_
        refine TO.s rfl rfl rfl (StepS.ldBA rfl (Ent.at 1 rfl) kaggB_45_4_true rfl rfl) ?_
        refine TO.ghost (fun _ s => Sat.front 4 rfl s) ?_
        refine TO.ghost (fun _ s => Sat.front 4 rfl s) ?_
        refine TO.ghost (fun _ s => Sat.front 4 rfl s) ?_
        obtain ⟨⟨r21, r22⟩, hc23, hm⟩ := bind_some hm
        refine TO.callO kcallB_33_true rfl rfl rfl (fun _ st => C33 (a0 := (a0.1, a0.2.1, a0.2.2.1, a0.2.2.2))  hc23 st) ?_
        rintro _ _ ⟨hs24, v26, v28, rfl, rfl⟩
        refine TO.pure (fun _ s => Rd.one (OwnS.rd (Ent.at 3 rfl)) s) fun oc30 => ?_
        refine TO.stB (us := [I r21.1, .string r21.2.1, I r21.2.2.1, v28]) 4 [I r21.1, .string r21.2.1, I r21.2.2.1, v28] rfl rfl rfl ksizeB_41_4_true rfl rfl rfl (by intro u hu; simp only [List.mem_cons, List.not_mem_nil, or_false] at hu; rcases hu with rfl | rfl | rfl | rfl <;> first | exact oc30.1 | rfl) rfl ?_
        refine TO.code ?_
        cases hm
        refine TC.ret fun a w e s => ?_
        refine FRet.cell1 (P := Tryd.prog) (fn := Tryd.f27) e s rfl rfl (Ent.at 4 rfl) kaggB_41_4_true rfl ?_
        refine ⟨_, _, rfl, ⟨(hs24), (v26), (v28), rfl, rfl⟩, ?_⟩
        refine s.mono fun _ s => ?_
        replace s := Sat.front 3 rfl s
        replace s := Sat.front 3 rfl s
        replace s := Sat.front 3 rfl s
        replace s := Sat.front 3 rfl s
        replace s := Sat.erase 4 s
        replace s := Sat.erase 4 s
        exact s
      · replace hm := cond_f hc20 hm
        refine TC.k ?_
        refine TC.region_still kfollows_mixedOrders_true (by kernel_rfl) ?_
        refine TS.s rfl rfl rfl (StepS.fld rfl kfieldB_47_0_0_true) ?_
        refine TS.s rfl rfl rfl (StepS.ldB rfl (Ent.at 1 rfl) kscalB_3_true rfl) ?_
        refine TS.s rfl rfl rfl (StepS.cmp rfl rfl rfl) ?_
        refine TS.s rfl rfl rfl (StepS.move rfl) ?_
        obtain ⟨b32, hj33, hm⟩ := bind_some hm
        refine TS.mid1 16 133 (.bool b32) ?_ ?_
        · refine bcase ((a1.1 == 2)) (fun hb31 => ?_) (fun hb31 => ?_)
          · replace hj33 := cond_t hb31 hj33
            refine TS.sw rfl rfl rfl hb31 rfl rfl (StepS.move rfl) ?_
            refine TS.sw rfl rfl rfl hb31 rfl rfl (StepS.nilc rfl) ?_
            refine TS.sw rfl rfl rfl hb31 rfl rfl (StepS.fld rfl kfieldB_73_0_0_true) ?_
            refine TS.sw rfl rfl rfl hb31 rfl rfl (StepS.ldB rfl (Ent.at 2 rfl) kscalB_70_true rfl) ?_
            refine TS.sw rfl rfl rfl hb31 rfl rfl (StepS.fld rfl kfieldB_47_2_2_true) ?_
            refine TS.sw rfl rfl rfl hb31 rfl rfl (StepS.ldB rfl (Ent.at 1 rfl) kscalB_3_true rfl) ?_
            obtain ⟨x34, hx35, hj33⟩ := bind_some hj33
            refine TS.sw rfl rfl rfl hb31 rfl rfl (StepS.idxN rfl rfl (Ent.at 3 rfl) ksliceB_70_77_2_true hx35) ?_
            refine TS.sw rfl rfl rfl hb31 rfl rfl (StepS.ptrf rfl kfieldB_77_1_1_true) ?_
            refine TS.sw rfl rfl rfl hb31 rfl rfl (StepS.ldN (j := 1) rfl (Ent.at 3 rfl) kscalB_3_true hx35 rfl rfl) ?_
            refine TS.sw rfl rfl rfl hb31 rfl rfl (StepS.move rfl) ?_
            refine TS.sw rfl rfl rfl hb31 rfl rfl (StepS.nilc rfl) ?_
            refine TS.sw rfl rfl rfl hb31 rfl rfl (StepS.fld rfl kfieldB_73_1_1_true) ?_
            refine TS.sw rfl rfl rfl hb31 rfl rfl (StepS.ldB rfl (Ent.at 2 rfl) kscalB_34_true rfl) ?_
            refine TS.sw rfl rfl rfl hb31 rfl rfl (StepS.lenm rfl (OwnS.rd (Ent.at 4 rfl)) ksliceB_34_45_4_true rfl) ?_
            refine TS.sw rfl rfl rfl hb31 rfl rfl (StepS.cmp rfl rfl rfl) ?_
            cases hj33
            refine TS.s rfl rfl rfl (StepS.pickT rfl hb31 rfl) ?_
            exact TS.up1 16 0 rfl rfl rfl rfl
          · replace hj33 := cond_f hb31 hj33
            cases hj33
            refine TS.skip rfl rfl rfl (skipF hb31) rfl rfl ?_
            refine TS.skip rfl rfl rfl (skipF hb31) rfl rfl ?_
            refine TS.skip rfl rfl rfl (skipF hb31) rfl rfl ?_
            refine TS.skip rfl rfl rfl (skipF hb31) rfl rfl ?_
            refine TS.skip rfl rfl rfl (skipF hb31) rfl rfl ?_
            refine TS.skip rfl rfl rfl (skipF hb31) rfl rfl ?_
            refine TS.skip rfl rfl rfl (skipF hb31) rfl rfl ?_
            refine TS.skip rfl rfl rfl (skipF hb31) rfl rfl ?_
            refine TS.skip rfl rfl rfl (skipF hb31) rfl rfl ?_
            refine TS.skip rfl rfl rfl (skipF hb31) rfl rfl ?_
            refine TS.skip rfl rfl rfl (skipF hb31) rfl rfl ?_
            refine TS.skip rfl rfl rfl (skipF hb31) rfl rfl ?_
            refine TS.skip rfl rfl rfl (skipF hb31) rfl rfl ?_
            refine TS.skip rfl rfl rfl (skipF hb31) rfl rfl ?_
            refine TS.skip rfl rfl rfl (skipF hb31) rfl rfl ?_
            refine TS.s rfl rfl rfl (StepS.pickF rfl hb31 rfl) ?_
            exact TS.up1 16 0 rfl rfl rfl rfl
        refine TS.s rfl rfl rfl (StepS.assign rfl) ?_
        refine TS.code ?_
        refine TC.cond rfl (fun hc36 => ?_) (fun hc36 => ?_)
        · replace hm := cond_t hc36 hm
          refine TC.k ?_
          refine TC.region ?_
          refine TO.s rfl rfl rfl (StepS.build (cs := [I 5, .string ByteArray.empty, I 0, .slice none 0 0]) rfl (by kernel_rfl)) ?_
          refine TO.stB (us := [I 5, .string ByteArray.empty, I 0, .slice none 0 0]) 0 [I 5, .string ByteArray.empty, I 0, .slice none 0 0] rfl rfl rfl ksizeB_41_4_true rfl rfl rfl (by simp [Value.oneCell']) rfl ?_
          refine TO.code ?_
          cases hm
          refine TC.ret fun a w e s => ?_
          refine FRet.cell1 (P := Tryd.prog) (fn := Tryd.f27) e s rfl rfl (Ent.at 0 rfl) kaggB_41_4_true rfl ?_
          refine ⟨_, _, rfl, ⟨(h0_2), (h0_3), (.slice none 0 0), rfl, rfl⟩, ?_⟩
          refine s.mono fun _ s => ?_
          replace s := Sat.nilS (e := 9) (sz := 1) (f := cS) s
          replace s := Sat.front 5 rfl s
          replace s := Sat.front 5 rfl s
          replace s := Sat.front 5 rfl s
          replace s := Sat.erase 4 s
          replace s := Sat.erase 4 s
          exact s
        · replace hm := cond_f hc36 hm
          refine TC.k ?_
          refine TC.region ?_
          refine TO.s rfl rfl rfl (StepS.fld rfl kfieldB_47_0_0_true) ?_
          refine TO.s rfl rfl rfl (StepS.ldB rfl (Ent.at 1 rfl) kscalB_3_true rfl) ?_
          refine TO.s rfl rfl rfl (StepS.cmp rfl rfl rfl) ?_
          refine TO.s rfl rfl rfl (StepS.assign rfl) ?_
          refine TO.code ?_
          refine TC.cond rfl (fun hc37 => ?_) (fun hc37 => ?_)
          · replace hm := cond_t hc37 hm
            refine TC.region_tail 13 kfollows_mixedOrders_true (by kernel_rfl) ?_
            refine TS.s rfl rfl rfl (StepS.move rfl) ?_
            refine TS.s rfl rfl rfl (StepS.fld rfl kfieldB_47_2_2_true) ?_
            refine TS.s rfl rfl rfl (StepS.ldB rfl (Ent.at 1 rfl) kscalB_3_true rfl) ?_
            refine TS.s rfl rfl rfl (StepS.move rfl) ?_
            refine TS.s rfl rfl rfl (StepS.nilc rfl) ?_
            refine TS.s rfl rfl rfl (StepS.fld rfl kfieldB_73_0_0_true) ?_
            refine TS.s rfl rfl rfl (StepS.ldB rfl (Ent.at 2 rfl) kscalB_70_true rfl) ?_
            refine TS.s rfl rfl rfl (StepS.fld rfl kfieldB_47_2_2_true) ?_
            refine TS.s rfl rfl rfl (StepS.ldB rfl (Ent.at 1 rfl) kscalB_3_true rfl) ?_
            obtain ⟨x38, hx39, hm⟩ := bind_some hm
            refine TS.s rfl rfl rfl (StepS.idxN rfl rfl (Ent.at 3 rfl) ksliceB_70_77_2_true hx39) ?_
            refine TS.s rfl rfl rfl (StepS.ptrf rfl kfieldB_77_1_1_true) ?_
            refine TS.s rfl rfl rfl (StepS.ldN (j := 1) rfl (Ent.at 3 rfl) kscalB_3_true hx39 rfl rfl) ?_
            refine TS.s rfl rfl rfl (StepS.ari rfl rfl rfl) ?_
            refine TS.nil ?_
            refine TO.at ?_
            refine TO.ghost (fun _ s => Sat.front 4 rfl s) ?_
            refine TO.ghost (fun _ s => Sat.front 4 rfl s) ?_
            refine TO.ghost (fun _ s => Sat.front 4 rfl s) ?_
            obtain ⟨⟨r40, r41⟩, hc42, hm⟩ := bind_some hm
            refine TO.callO kcallB_34_true rfl rfl rfl (fun _ st => C34 (a0 := (a0.1, a0.2.1))  hc42 st) ?_
            rintro _ _ ⟨hs43, v46, rfl, rfl⟩
            refine TO.code ?_
            refine TC.k ?_
            refine TC.region ?_
            refine TO.s rfl rfl rfl (StepS.build (cs := [I 0, .string ByteArray.empty, I 0, .slice none 0 0]) rfl (by kernel_rfl)) ?_
            refine TO.stB (us := [I 0, .string ByteArray.empty, I 0, .slice none 0 0]) 4 [I 0, .string ByteArray.empty, I 0, .slice none 0 0] rfl rfl rfl ksizeB_41_4_true rfl rfl rfl (by simp [Value.oneCell']) rfl ?_
            refine TO.code ?_
            cases hm
            refine TC.ret fun a w e s => ?_
            refine FRet.cell1 (P := Tryd.prog) (fn := Tryd.f27) e s rfl rfl (Ent.at 4 rfl) kaggB_41_4_true rfl ?_
            refine ⟨_, _, rfl, ⟨(hs43), (h0_3), (.slice none 0 0), rfl, rfl⟩, ?_⟩
            refine s.mono fun _ s => ?_
            replace s := Sat.nilS (e := 9) (sz := 1) (f := cS) s
            replace s := Sat.front 3 rfl s
            replace s := Sat.front 3 rfl s
            replace s := Sat.front 3 rfl s
            replace s := Sat.erase 4 s
            replace s := Sat.erase 4 s
            replace s := Sat.erase 4 s
            exact s
          · replace hm := cond_f hc37 hm
            refine TC.k ?_
            refine TC.region_still kfollows_mixedOrders_true (by kernel_rfl) ?_
            refine TS.s rfl rfl rfl (StepS.fld rfl kfieldB_47_0_0_true) ?_
            refine TS.s rfl rfl rfl (StepS.ldB rfl (Ent.at 1 rfl) kscalB_3_true rfl) ?_
            refine TS.s rfl rfl rfl (StepS.cmp rfl rfl rfl) ?_
            refine TS.s rfl rfl rfl (StepS.move rfl) ?_
            obtain ⟨b49, hj50, hm⟩ := bind_some hm
            refine TS.mid1 18 175 (.bool b49) ?_ ?_
            · refine bcase ((a1.1 == 3)) (fun hb48 => ?_) (fun hb48 => ?_)
              · replace hj50 := cond_t hb48 hj50
                refine TS.sw rfl rfl rfl hb48 rfl rfl (StepS.move rfl) ?_
                refine TS.sw rfl rfl rfl hb48 rfl rfl (StepS.nilc rfl) ?_
                refine TS.sw rfl rfl rfl hb48 rfl rfl (StepS.fld rfl kfieldB_73_0_0_true) ?_
                refine TS.sw rfl rfl rfl hb48 rfl rfl (StepS.ldB rfl (Ent.at 2 rfl) kscalB_70_true rfl) ?_
                refine TS.sw rfl rfl rfl hb48 rfl rfl (StepS.fld rfl kfieldB_47_2_2_true) ?_
                refine TS.sw rfl rfl rfl hb48 rfl rfl (StepS.ldB rfl (Ent.at 1 rfl) kscalB_3_true rfl) ?_
                obtain ⟨x51, hx52, hj50⟩ := bind_some hj50
                refine TS.sw rfl rfl rfl hb48 rfl rfl (StepS.idxN rfl rfl (Ent.at 3 rfl) ksliceB_70_77_2_true hx52) ?_
                refine TS.sw rfl rfl rfl hb48 rfl rfl (StepS.ptrf rfl kfieldB_77_1_1_true) ?_
                refine TS.sw rfl rfl rfl hb48 rfl rfl (StepS.ldN (j := 1) rfl (Ent.at 3 rfl) kscalB_3_true hx52 rfl rfl) ?_
                refine TS.sw rfl rfl rfl hb48 rfl rfl (StepS.move rfl) ?_
                refine TS.sw rfl rfl rfl hb48 rfl rfl (StepS.fld rfl kfieldB_47_1_1_true) ?_
                refine TS.sw rfl rfl rfl hb48 rfl rfl (StepS.ldB rfl (Ent.at 1 rfl) kscalB_3_true rfl) ?_
                refine TS.sw rfl rfl rfl hb48 rfl rfl (StepS.nilc rfl) ?_
                refine TS.sw rfl rfl rfl hb48 rfl rfl (StepS.fld rfl kfieldB_73_3_8_true) ?_
                obtain ⟨x53, hx54, hj50⟩ := bind_some hj50
                refine TS.sw rfl rfl rfl hb48 rfl rfl (StepS.aidx (j := a1.2.1.toNat * 1) rfl rfl karrB_71_6_3_1_true ⟨(idx_spec hx54).1, idx_lt hx54⟩ rfl) ?_
                refine TS.sw rfl rfl rfl hb48 rfl rfl (StepS.ldD (i := a1.2.1) (sz := 1) (k := 0) [h0_1, h0_3, I a0.2.2.1.1, I a0.2.2.1.2.1, I a0.2.2.1.2.2.1, I a0.2.2.1.2.2.2.1, I a0.2.2.1.2.2.2.2.1, I a0.2.2.1.2.2.2.2.2] [] (f := cI) (xs := tl6 a0.2.2.2) (y := x53) rfl (Ent.at 2 rfl) kscalB_3_true rfl (by simp only [List.length_cons, List.length_nil] <;> omega) (fun _ => rfl) hx54 rfl) ?_
                refine TS.sw rfl rfl rfl hb48 rfl rfl (StepS.cmp rfl rfl rfl) ?_
                cases hj50
                refine TS.s rfl rfl rfl (StepS.pickT rfl hb48 rfl) ?_
                exact TS.up1 18 0 rfl rfl rfl rfl
              · replace hj50 := cond_f hb48 hj50
                cases hj50
                refine TS.skip rfl rfl rfl (skipF hb48) rfl rfl ?_
                refine TS.skip rfl rfl rfl (skipF hb48) rfl rfl ?_
                refine TS.skip rfl rfl rfl (skipF hb48) rfl rfl ?_
                refine TS.skip rfl rfl rfl (skipF hb48) rfl rfl ?_
                refine TS.skip rfl rfl rfl (skipF hb48) rfl rfl ?_
                refine TS.skip rfl rfl rfl (skipF hb48) rfl rfl ?_
                refine TS.skip rfl rfl rfl (skipF hb48) rfl rfl ?_
                refine TS.skip rfl rfl rfl (skipF hb48) rfl rfl ?_
                refine TS.skip rfl rfl rfl (skipF hb48) rfl rfl ?_
                refine TS.skip rfl rfl rfl (skipF hb48) rfl rfl ?_
                refine TS.skip rfl rfl rfl (skipF hb48) rfl rfl ?_
                refine TS.skip rfl rfl rfl (skipF hb48) rfl rfl ?_
                refine TS.skip rfl rfl rfl (skipF hb48) rfl rfl ?_
                refine TS.skip rfl rfl rfl (skipF hb48) rfl rfl ?_
                refine TS.skip rfl rfl rfl (skipF hb48) rfl rfl ?_
                refine TS.skip rfl rfl rfl (skipF hb48) rfl rfl ?_
                refine TS.skip rfl rfl rfl (skipF hb48) rfl rfl ?_
                refine TS.s rfl rfl rfl (StepS.pickF rfl hb48 rfl) ?_
                exact TS.up1 18 0 rfl rfl rfl rfl
            refine TS.s rfl rfl rfl (StepS.assign rfl) ?_
            refine TS.code ?_
            refine TC.cond rfl (fun hc55 => ?_) (fun hc55 => ?_)
            · replace hm := cond_t hc55 hm
              refine TC.k ?_
              refine TC.region ?_
              refine TO.s rfl rfl rfl (StepS.build (cs := [I 8, .string ByteArray.empty, I 0, .slice none 0 0]) rfl (by kernel_rfl)) ?_
              refine TO.stB (us := [I 8, .string ByteArray.empty, I 0, .slice none 0 0]) 0 [I 8, .string ByteArray.empty, I 0, .slice none 0 0] rfl rfl rfl ksizeB_41_4_true rfl rfl rfl (by simp [Value.oneCell']) rfl ?_
              refine TO.code ?_
              cases hm
              refine TC.ret fun a w e s => ?_
              refine FRet.cell1 (P := Tryd.prog) (fn := Tryd.f27) e s rfl rfl (Ent.at 0 rfl) kaggB_41_4_true rfl ?_
              refine ⟨_, _, rfl, ⟨(h0_2), (h0_3), (.slice none 0 0), rfl, rfl⟩, ?_⟩
              refine s.mono fun _ s => ?_
              replace s := Sat.nilS (e := 9) (sz := 1) (f := cS) s
              replace s := Sat.front 5 rfl s
              replace s := Sat.front 5 rfl s
              replace s := Sat.front 5 rfl s
              replace s := Sat.erase 4 s
              replace s := Sat.erase 4 s
              exact s
            · replace hm := cond_f hc55 hm
              refine TC.k ?_
              refine TC.region ?_
              refine TO.s rfl rfl rfl (StepS.fld rfl kfieldB_47_0_0_true) ?_
              refine TO.s rfl rfl rfl (StepS.ldB rfl (Ent.at 1 rfl) kscalB_3_true rfl) ?_
              refine TO.s rfl rfl rfl (StepS.cmp rfl rfl rfl) ?_
              refine TO.s rfl rfl rfl (StepS.assign rfl) ?_
              refine TO.code ?_
              obtain ⟨⟨y56, y58, z59, z60⟩, hj61, hm⟩ := bind_some hm
              first | refine TC.cutM (fun a w => ∃ hs57 : List (List Value), Mid 190 B [(4, .pointer (some ⟨b7, 0, none⟩))] (Bx b7 41 [I 0, .string ByteArray.empty, I 0, .slice none 0 0] :: Bx b6 47 [I a1.1, I a1.2.1, I a1.2.2.1, I a1.2.2.2.1, .string a1.2.2.2.2.1, .string a1.2.2.2.2.2.1, I a1.2.2.2.2.2.2] :: Bx b0_ 73 [h0_1, h0_3, I z59.1, I z59.2.1, I z59.2.2.1, I z59.2.2.2.1, I z59.2.2.2.2.1, I z59.2.2.2.2.2, I z60.1, I z60.2.1, I z60.2.2.1, I z60.2.2.2.1, I z60.2.2.2.2.1, I z60.2.2.2.2.2] :: SN 77 2 nT77 h0_1 hs57 (y56) :: OwnS 45 4 h0_3 (y58.map cTissi) :: L) a w) ?_ ?_ | refine TC.cutX (fun a w => ∃ hs57 : List (List Value), Mid 190 B [(4, .pointer (some ⟨b7, 0, none⟩))] (Bx b7 41 [I 0, .string ByteArray.empty, I 0, .slice none 0 0] :: Bx b6 47 [I a1.1, I a1.2.1, I a1.2.2.1, I a1.2.2.2.1, .string a1.2.2.2.2.1, .string a1.2.2.2.2.2.1, I a1.2.2.2.2.2.2] :: Bx b0_ 73 [h0_1, h0_3, I z59.1, I z59.2.1, I z59.2.2.1, I z59.2.2.2.1, I z59.2.2.2.2.1, I z59.2.2.2.2.2, I z60.1, I z60.2.1, I z60.2.2.1, I z60.2.2.2.1, I z60.2.2.2.2.1, I z60.2.2.2.2.2] :: SN 77 2 nT77 h0_1 hs57 (y56) :: OwnS 45 4 h0_3 (y58.map cTissi) :: L) a w) ?_ ?_
              · refine TC.cond rfl (fun hc62 => ?_) (fun hc62 => ?_)
                · replace hj61 := cond_t hc62 hj61
                  refine TC.region_tail 8 kfollows_mixedOrders_true (by kernel_rfl) ?_
                  refine TS.s rfl rfl rfl (StepS.move rfl) ?_
                  refine TS.s rfl rfl rfl (StepS.fld rfl kfieldB_47_1_1_true) ?_
                  refine TS.s rfl rfl rfl (StepS.ldB rfl (Ent.at 1 rfl) kscalB_3_true rfl) ?_
                  refine TS.s rfl rfl rfl (StepS.fld rfl kfieldB_47_2_2_true) ?_
                  refine TS.s rfl rfl rfl (StepS.ldB rfl (Ent.at 1 rfl) kscalB_3_true rfl) ?_
                  refine TS.s rfl rfl rfl (StepS.nilc rfl) ?_
                  refine TS.s rfl rfl rfl (StepS.fld rfl kfieldB_73_2_2_true) ?_
                  obtain ⟨x63, hx64, hj61⟩ := bind_some hj61
                  refine TS.s rfl rfl rfl (StepS.aidx (j := a1.2.1.toNat * 1) rfl rfl karrB_71_6_3_1_true ⟨(idx_spec hx64).1, idx_lt hx64⟩ rfl) ?_
                  refine TS.nil ?_
                  refine TO.at ?_
                  obtain ⟨z65, hz66, hj61⟩ := bind_some hj61
                  refine TO.stD (i := a1.2.1) (sz := 1) (j := 0) (us := [I a1.2.2.1]) (cs' := [h0_1, h0_3, I z65.1, I z65.2.1, I z65.2.2.1, I z65.2.2.2.1, I z65.2.2.2.2.1, I z65.2.2.2.2.2, I a0.2.2.2.1, I a0.2.2.2.2.1, I a0.2.2.2.2.2.1, I a0.2.2.2.2.2.2.1, I a0.2.2.2.2.2.2.2.1, I a0.2.2.2.2.2.2.2.2]) 2 [h0_1, h0_3] [I a0.2.2.2.1, I a0.2.2.2.2.1, I a0.2.2.2.2.2.1, I a0.2.2.2.2.2.2.1, I a0.2.2.2.2.2.2.2.1, I a0.2.2.2.2.2.2.2.2] (f := cI) (xs := tl6 a0.2.2.1) (xs' := tl6 z65) (y0 := x63) (y1 := a1.2.2.1) rfl rfl rfl ksizeB_3_1_true rfl rfl (by simp [Value.oneCell']) rfl (by simp only [List.length_cons, List.length_nil] <;> omega) (fun _ => rfl) hx64 rfl rfl (as6_spec hz66) rfl ?_
                  cases hj61
                  refine TO.nil fun a w e s => ?_
                  exact ⟨h0_2, e.sub (lk_of_allIn ⟨rfl, trivial⟩), s⟩
                · replace hj61 := cond_f hc62 hj61
                  refine TC.k ?_
                  refine TC.region_tail 13 kfollows_mixedOrders_true (by kernel_rfl) ?_
                  refine TS.s rfl rfl rfl (StepS.move rfl) ?_
                  refine TS.s rfl rfl rfl (StepS.move rfl) ?_
                  refine TS.s rfl rfl rfl (StepS.fld rfl kfieldB_47_1_1_true) ?_
                  refine TS.s rfl rfl rfl (StepS.ldB rfl (Ent.at 1 rfl) kscalB_3_true rfl) ?_
                  refine TS.s rfl rfl rfl (StepS.nilc rfl) ?_
                  refine TS.s rfl rfl rfl (StepS.fld rfl kfieldB_73_2_2_true) ?_
                  obtain ⟨x67, hx68, hj61⟩ := bind_some hj61
                  refine TS.s rfl rfl rfl (StepS.aidx (j := a1.2.1.toNat * 1) rfl rfl karrB_71_6_3_1_true ⟨(idx_spec hx68).1, idx_lt hx68⟩ rfl) ?_
                  refine TS.s rfl rfl rfl (StepS.ldD (i := a1.2.1) (sz := 1) (k := 0) [h0_1, h0_3] [I a0.2.2.2.1, I a0.2.2.2.2.1, I a0.2.2.2.2.2.1, I a0.2.2.2.2.2.2.1, I a0.2.2.2.2.2.2.2.1, I a0.2.2.2.2.2.2.2.2] (f := cI) (xs := tl6 a0.2.2.1) (y := x67) rfl (Ent.at 2 rfl) kscalB_3_true rfl (by simp only [List.length_cons, List.length_nil] <;> omega) (fun _ => rfl) hx68 rfl) ?_
                  refine TS.s rfl rfl rfl (StepS.move rfl) ?_
                  refine TS.s rfl rfl rfl (StepS.nilc rfl) ?_
                  refine TS.s rfl rfl rfl (StepS.fld rfl kfieldB_73_1_1_true) ?_
                  refine TS.s rfl rfl rfl (StepS.ldB rfl (Ent.at 2 rfl) kscalB_34_true rfl) ?_
                  refine TS.s rfl rfl rfl (StepS.lenm rfl (OwnS.rd (Ent.at 4 rfl)) ksliceB_34_45_4_true rfl) ?_
                  refine TS.nil ?_
                  refine TO.at ?_
                  refine TO.ghost (fun _ s => Sat.front 4 rfl s) ?_
                  refine TO.ghost (fun _ s => Sat.front 4 rfl s) ?_
                  refine TO.ghost (fun _ s => Sat.front 4 rfl s) ?_
                  obtain ⟨⟨r69, r70⟩, hc71, hj61⟩ := bind_some hj61
                  refine TO.callO kcallB_34_true rfl rfl rfl (fun _ st => C34 (a0 := (a0.1, a0.2.1))  hc71 st) ?_
                  rintro _ _ ⟨hs72, v75, rfl, rfl⟩
                  refine TO.code ?_
                  refine TC.region_tail 11 kfollows_mixedOrders_true (by kernel_rfl) ?_
                  refine TS.s rfl rfl rfl (StepS.move rfl) ?_
                  refine TS.s rfl rfl rfl (StepS.fld rfl kfieldB_47_1_1_true) ?_
                  refine TS.s rfl rfl rfl (StepS.ldB rfl (Ent.at 5 rfl) kscalB_3_true rfl) ?_
                  refine TS.s rfl rfl rfl (StepS.move rfl) ?_
                  refine TS.s rfl rfl rfl (StepS.nilc rfl) ?_
                  refine TS.s rfl rfl rfl (StepS.fld rfl kfieldB_73_1_1_true) ?_
                  refine TS.s rfl rfl rfl (StepS.ldB rfl (Ent.at 0 rfl) kscalB_34_true rfl) ?_
                  refine TS.s rfl rfl rfl (StepS.lenm rfl (OwnS.rd (Ent.at 2 rfl)) ksliceB_34_45_4_true rfl) ?_
                  refine TS.s rfl rfl rfl (StepS.nilc rfl) ?_
                  refine TS.s rfl rfl rfl (StepS.fld rfl kfieldB_73_3_8_true) ?_
                  obtain ⟨x77, hx78, hj61⟩ := bind_some hj61
                  refine TS.s rfl rfl rfl (StepS.aidx (j := a1.2.1.toNat * 1) rfl rfl karrB_71_6_3_1_true ⟨(idx_spec hx78).1, idx_lt hx78⟩ rfl) ?_
                  refine TS.nil ?_
                  refine TO.at ?_
                  obtain ⟨z79, hz80, hj61⟩ := bind_some hj61
                  refine TO.stD (i := a1.2.1) (sz := 1) (j := 0) (us := [I (r70.2.length : Int)]) (cs' := [h0_1, h0_3, I a0.2.2.1.1, I a0.2.2.1.2.1, I a0.2.2.1.2.2.1, I a0.2.2.1.2.2.2.1, I a0.2.2.1.2.2.2.2.1, I a0.2.2.1.2.2.2.2.2, I z79.1, I z79.2.1, I z79.2.2.1, I z79.2.2.2.1, I z79.2.2.2.2.1, I z79.2.2.2.2.2]) 0 [h0_1, h0_3, I a0.2.2.1.1, I a0.2.2.1.2.1, I a0.2.2.1.2.2.1, I a0.2.2.1.2.2.2.1, I a0.2.2.1.2.2.2.2.1, I a0.2.2.1.2.2.2.2.2] [] (f := cI) (xs := tl6 a0.2.2.2) (xs' := tl6 z79) (y0 := x77) (y1 := (r70.2.length : Int)) rfl rfl rfl ksizeB_3_1_true rfl rfl (by simp [Value.oneCell']) rfl (by simp only [List.length_cons, List.length_nil] <;> omega) (fun _ => rfl) hx78 rfl rfl (as6_spec hz80) rfl ?_
                  cases hj61
                  refine TO.nil fun a w e s => ?_
                  exact ⟨hs72, e.sub (lk_of_allIn ⟨rfl, trivial⟩), s.mono fun _ s => (by exact Sat.by [2, 2, 2, 5, 5] 5 1 (by kernel_rfl) s)⟩
              · intro a w ⟨hs57, he, hs⟩
                refine TC.use ?_ he hs
                refine TC.k ?_
                refine TC.region ?_
                refine TO.s rfl rfl rfl (StepS.build (cs := [I 0, .string ByteArray.empty, I 0, .slice none 0 0]) rfl (by kernel_rfl)) ?_
                refine TO.stB (us := [I 0, .string ByteArray.empty, I 0, .slice none 0 0]) 0 [I 0, .string ByteArray.empty, I 0, .slice none 0 0] rfl rfl rfl ksizeB_41_4_true rfl rfl rfl (by simp [Value.oneCell']) rfl ?_
                refine TO.code ?_
                cases hm
                refine TC.ret fun a w e s => ?_
                refine FRet.cell1 (P := Tryd.prog) (fn := Tryd.f27) e s rfl rfl (Ent.at 0 rfl) kaggB_41_4_true rfl ?_
                refine ⟨_, _, rfl, ⟨(hs57), (h0_3), (.slice none 0 0), rfl, rfl⟩, ?_⟩
                refine s.mono fun _ s => ?_
                replace s := Sat.nilS (e := 9) (sz := 1) (f := cS) s
                replace s := Sat.front 5 rfl s
                replace s := Sat.front 5 rfl s
                replace s := Sat.front 5 rfl s
                replace s := Sat.erase 4 s
                replace s := Sat.erase 4 s
                exact s

set_option maxRecDepth 100000 in
theorem C10 {B : World} {L : List HP} {a0 : Int} {a1 : List (Int × Int × Int × Int × ByteArray × ByteArray × Int)} {h1 : Value} {r0 : (List (Int × ByteArray × Int × List ByteArray)) × (List Int) × List Int} {r1 : Int} (e1 : Ent L (Rd 7 h1 (a1.map cTiiiissi))) (hm : F10 a0 a1 = some (r0, r1)) {w : World} (st : St B L w) : Calls Tryd.prog 10 #[I a0, h1] w (fun e w' => ∃ v M, e = .returned v ∧ (∃ (qv1 : Value) (qhs2 : List (List Value)) (qv3 : Value) (qv4 : Value), v = .tuple #[.agg #[qv1, qv3, qv4], I r1] ∧ M = (SN 41 4 nT41 qv1 qhs2 (r0.1) :: OwnS 3 1 qv3 (r0.2.1.map cI) :: OwnS 3 1 qv4 (r0.2.2.map cI) :: L)) ∧ St B M w') := by
  refine calls_of (N := 82) (L := L) (args := [I a0, h1]) Tryd.func10 rfl rfl rfl ?_ st
  dsimp only [F10] at hm
  refine TC.k ?_
  refine TC.region ?_
  refine TO.alloc kinfo_26_bind_zero_some_agg_slice_none_0_0_slice_none_0_0_slice_none_0_0 rfl rfl fun b4 => ?_
  refine TO.s rfl rfl rfl (StepS.assign rfl) ?_
  refine TO.code ?_
  refine TC.k ?_
  refine TC.k ?_
  refine TC.region ?_
  refine TO.s rfl rfl rfl (StepS.move rfl) ?_
  refine TO.s rfl rfl rfl (StepS.cmp rfl rfl rfl) ?_
  refine TO.s rfl rfl rfl (StepS.move rfl) ?_
  refine TO.mid1 3 17 (.bool ((decide (a0 < 1)) || (decide (a0 > 6)))) ?_ ?_
  · refine bcase ((decide (a0 < 1))) (fun hb5 => ?_) (fun hb5 => ?_)
    · refine TO.skip rfl rfl rfl (skipT hb5) rfl rfl ?_
      refine TO.skip rfl rfl rfl (skipT hb5) rfl rfl ?_
      refine TO.s rfl rfl rfl (StepS.pickT rfl hb5 rfl) ?_
      exact TO.up1 3 0 rfl rfl (by rw [hb5]; rfl) rfl
    · refine TO.sw rfl rfl rfl hb5 rfl rfl (StepS.move rfl) ?_
      refine TO.sw rfl rfl rfl hb5 rfl rfl (StepS.cmp rfl rfl rfl) ?_
      refine TO.s rfl rfl rfl (StepS.pickF rfl hb5 rfl) ?_
      exact TO.up1 3 0 rfl rfl (by rw [hb5]; rfl) rfl
  refine TO.s rfl rfl rfl (StepS.move rfl) ?_
  refine TO.mid1 4 22 (.bool (((decide (a0 < 1)) || (decide (a0 > 6))) || (decide ((a1.length : Int) > 60)))) ?_ ?_
  · refine bcase (((decide (a0 < 1)) || (decide (a0 > 6)))) (fun hb6 => ?_) (fun hb6 => ?_)
    · refine TO.skip rfl rfl rfl (skipT hb6) rfl rfl ?_
      refine TO.skip rfl rfl rfl (skipT hb6) rfl rfl ?_
      refine TO.skip rfl rfl rfl (skipT hb6) rfl rfl ?_
      refine TO.s rfl rfl rfl (StepS.pickT rfl hb6 rfl) ?_
      exact TO.up1 4 0 rfl rfl (by rw [hb6]; rfl) rfl
    · refine TO.sw rfl rfl rfl hb6 rfl rfl (StepS.move rfl) ?_
      refine TO.sw rfl rfl rfl hb6 rfl rfl (StepS.lenm rfl e1.tl ksliceB_22_47_7_true rfl) ?_
      refine TO.sw rfl rfl rfl hb6 rfl rfl (StepS.cmp rfl rfl rfl) ?_
      refine TO.s rfl rfl rfl (StepS.pickF rfl hb6 rfl) ?_
      exact TO.up1 4 0 rfl rfl (by rw [hb6]; rfl) rfl
  refine TO.code ?_
  refine TC.cond rfl (fun hc7 => ?_) (fun hc7 => ?_)
  · replace hm := cond_t hc7 hm
    refine TC.k ?_
    refine TC.region ?_
    refine TO.s rfl rfl rfl (StepS.build (cs := [.slice none 0 0, .slice none 0 0, .slice none 0 0]) rfl (by kernel_rfl)) ?_
    refine TO.stB (us := [.slice none 0 0, .slice none 0 0, .slice none 0 0]) 0 [.slice none 0 0, .slice none 0 0, .slice none 0 0] rfl rfl rfl ksizeB_26_3_true rfl rfl rfl (by simp [Value.oneCell']) rfl ?_
    refine TO.s rfl rfl rfl (StepS.assign rfl) ?_
    refine TO.code ?_
    cases hm
    refine TC.ret fun a w e s => ?_
    refine FRet.cell2 (P := Tryd.prog) (fn := Tryd.f10) e s rfl rfl rfl (Ent.at 0 rfl) kaggB_26_3_true rfl ?_
    refine ⟨_, _, rfl, ⟨(.slice none 0 0), ([]), (.slice none 0 0), (.slice none 0 0), rfl, rfl⟩, ?_⟩
    refine s.mono fun _ s => ?_
    replace s := Sat.nilS (e := 3) (sz := 1) (f := cI) s
    replace s := Sat.nilS (e := 3) (sz := 1) (f := cI) s
    replace s := Sat.nilSN (e := 41) (sz := 4) (T := nT41) s
    replace s := Sat.erase 3 s
    exact s
  · replace hm := cond_f hc7 hm
    refine TC.skipk ?_
    refine TC.k ?_
    refine TC.region ?_
    refine TO.s rfl rfl rfl (StepS.build (cs := [.slice none 0 0, .slice none 0 0, I 0, I 0, I 0, I 0, I 0, I 0, I 0, I 0, I 0, I 0, I 0, I 0]) rfl (by kernel_rfl)) ?_
    refine TO.box (cs := [.slice none 0 0, .slice none 0 0, I 0, I 0, I 0, I 0, I 0, I 0, I 0, I 0, I 0, I 0, I 0, I 0]) rfl rfl rfl fun b8 => ?_
    refine TO.s rfl rfl rfl (StepS.assign rfl) ?_
    refine TO.code ?_
    refine TC.k ?_
    refine TC.k ?_
    refine TC.region ?_
    refine TO.s rfl rfl rfl (StepS.move rfl) ?_
    refine TO.s rfl rfl rfl (StepS.move rfl) ?_
    refine TO.code ?_
    obtain ⟨o23, hw24, hm⟩ := bind_some hm
    refine TC.loop hw24 (fun (y12, x13) => fun a w => ∃ v9 : Value, ∃ hs10 : List (List Value), Mid 82 B [(1, h1), (4, .pointer (some ⟨b4, 0, none⟩)), (6, .pointer (some ⟨b8, 0, none⟩)), (26, I a0), (27, I x13)] (SN 77 2 nT77 v9 hs10 (y12) :: Bx b8 73 [v9, .slice none 0 0, I 0, I 0, I 0, I 0, I 0, I 0, I 0, I 0, I 0, I 0, I 0, I 0] :: Bx b4 26 [.slice none 0 0, .slice none 0 0, .slice none 0 0] :: L) a w) (fun y22 => fun a w => ∃ v19 : Value, ∃ hs20 : List (List Value), Mid 82 B [(1, h1), (4, .pointer (some ⟨b4, 0, none⟩)), (6, .pointer (some ⟨b8, 0, none⟩))] (SN 77 2 nT77 v19 hs20 (y22) :: Bx b8 73 [v19, .slice none 0 0, I 0, I 0, I 0, I 0, I 0, I 0, I 0, I 0, I 0, I 0, I 0, I 0] :: Bx b4 26 [.slice none 0 0, .slice none 0 0, .slice none 0 0] :: L) a w) (fun (_ : Unit) _ _ => False) ?_ ?_ ?_ ?_
    · rintro ⟨y12, x13⟩ o23r hb25 a w ⟨v9, hs10, he, hs⟩
      dsimp only [F10_L0] at hb25
      refine TC.use ?_ he hs
      refine TC.k ?_
      refine TC.region ?_
      refine TO.s rfl rfl rfl (StepS.cmp rfl rfl rfl) ?_
      refine TO.code ?_
      refine TC.k ?_
      refine TC.cond rfl (fun hc26 => ?_) (fun hc26 => ?_)
      · replace hb25 := cond_t hc26 hb25
        refine TC.skipk ?_
        refine TC.k ?_
        refine TC.block ?_
        refine TC.region_any (Bx b8 73 [v9, .slice none 0 0, I 0, I 0, I 0, I 0, I 0, I 0, I 0, I 0, I 0, I 0, I 0, I 0] :: Bx b4 26 [.slice none 0 0, .slice none 0 0, .slice none 0 0] :: L) 11 12 kfollows_mixedOrders_true rfl ?_
        refine TA.takeW 0 rfl rfl rfl rfl (StepS.move rfl) (by kernel_rfl) (by kernel_rfl) (by kernel_rfl) rfl (.inr (fun _ s => Sat.by [2, 2] 2 1 (by kernel_rfl) s)) ?_
        refine TA.takeW 1 rfl rfl rfl rfl (StepS.move rfl) (by kernel_rfl) (by kernel_rfl) (by kernel_rfl) rfl (.inr (fun _ s => Sat.by [2, 2] 2 1 (by kernel_rfl) s)) ?_
        refine TA.takeW 2 rfl rfl rfl rfl (StepS.nilc rfl) (by kernel_rfl) (by kernel_rfl) (by kernel_rfl) rfl (.inr (fun _ s => Sat.by [2, 2] 2 1 (by kernel_rfl) s)) ?_
        refine TA.takeW 3 rfl rfl rfl rfl (StepS.fld rfl kfieldB_73_0_0_true) (by kernel_rfl) (by kernel_rfl) (by kernel_rfl) rfl (.inr (fun _ s => Sat.by [2, 2] 2 1 (by kernel_rfl) s)) ?_
        refine TA.take 4 rfl rfl rfl rfl (StepS.ldB rfl (Ent.at 0 rfl) kscalB_70_true rfl) (by kernel_rfl) (by kernel_rfl) (by kernel_rfl) (by kernel_rfl) (by kernel_rfl) (fun _ s => Sat.by [2, 2] 2 1 (by kernel_rfl) s) ?_
        refine TA.all1 (i := 5) (by kernel_rfl) ?_
        refine TB.of rfl ?_
        obtain ⟨rq27_5_1, hcq27_5_2, hb25⟩ := bind_some hb25
        refine TO.callO kcallB_26_true rfl rfl rfl (fun _ st => C26  hcq27_5_2 st) ?_
        rintro _ _ ⟨bq27_5_5, rq27_5_3, rfl, rfl⟩
        refine TA.back (.inr (fun _ s => Sat.by [4, 4] 2 3 (by kernel_rfl) s)) ?_
        refine TA.asL (L' := (Bx bq27_5_5 103 [.map (some rq27_5_3)] :: MF (fun k : ByteArray => .string k) (fun x : ByteArray × Int => .agg (cTsi x).toArray) rq27_5_3 (rq27_5_1) :: SN 77 2 nT77 v9 hs10 (y12) :: Bx b8 73 [v9, .slice none 0 0, I 0, I 0, I 0, I 0, I 0, I 0, I 0, I 0, I 0, I 0, I 0, I 0] :: Bx b4 26 [.slice none 0 0, .slice none 0 0, .slice none 0 0] :: L)) (listed' := #[true, true, true, true, true, true, false, false, false, false, false, false]) (by kernel_rfl) (by kernel_rfl) ?_
        refine TA.takeW 6 rfl rfl rfl rfl (StepS.build (cs := [.pointer (some ⟨bq27_5_5, 0, none⟩), I 0]) rfl (by kernel_rfl)) (by kernel_rfl) (by kernel_rfl) (by kernel_rfl) rfl (.inr (fun _ s => Sat.by [4, 4] 2 3 (by kernel_rfl) s)) ?_
        refine TA.all1 (i := 7) (by kernel_rfl) ?_
        refine TB.of rfl ?_
        refine TO.litS (f := fun (_ : Unit) => [.pointer (some ⟨bq27_5_5, 0, none⟩), I 0]) [()] kelemB_70_77_2_16_true kinfo_77_bind_zero_some_agg_pointer_none_I_0 rfl rfl (fun _ => rfl) rfl rfl (by kernel_rfl) rfl fun vq27_7_1 => ?_
        refine TA.back (.inr (fun _ s => Sat.by [5, 5] 2 4 (by kernel_rfl) s)) ?_
        refine TA.asL (L' := (OwnS 77 2 vq27_7_1 ([()].map (fun (_ : Unit) => [.pointer (some ⟨bq27_5_5, 0, none⟩), I 0])) :: Bx bq27_5_5 103 [.map (some rq27_5_3)] :: MF (fun k : ByteArray => .string k) (fun x : ByteArray × Int => .agg (cTsi x).toArray) rq27_5_3 (rq27_5_1) :: SN 77 2 nT77 v9 hs10 (y12) :: Bx b8 73 [v9, .slice none 0 0, I 0, I 0, I 0, I 0, I 0, I 0, I 0, I 0, I 0, I 0, I 0, I 0] :: Bx b4 26 [.slice none 0 0, .slice none 0 0, .slice none 0 0] :: L)) (listed' := #[true, true, true, true, true, true, true, true, false, false, false, false]) (by kernel_rfl) (by kernel_rfl) ?_
        refine TA.all1 (i := 8) (by kernel_rfl) ?_
        refine TB.of rfl ?_
        refine TO.ghost (fun _ s => Sat.front 3 rfl s) ?_
        refine TO.ghost (fun _ s => Sat.front 3 rfl s) ?_
        refine TO.ghost (fun _ s => Sat.front 3 rfl s) ?_
        obtain ⟨yq27_8_1, hkq27_8_2, hb25⟩ := bind_some hb25
        refine TO.appN (T := nT77) (z := (rq27_5_1, 0)) [.pointer (some ⟨bq27_5_5, 0, none⟩), .map (some rq27_5_3)] rfl kelemB_70_77_2_16_true (by decide) rfl rfl (OwnS.rd (Ent.at 0 rfl)) hkq27_8_2 (by intro u hu; have hu : u ∈ [.pointer (some ⟨bq27_5_5, 0, none⟩), I 0] := hu; simp only [List.mem_cons, List.not_mem_nil, or_false] at hu; rcases hu with rfl | rfl <;> first | rfl) rfl rfl fun vq27_8_3 hsq27_8_4 => ?_
        refine TO.ghost (fun _ s => Sat.erase 1 s) ?_
        refine TA.back (.inr (fun _ s => Sat.by [2, 2] 2 1 (by kernel_rfl) s)) ?_
        refine TA.asL (L' := (SN 77 2 nT77 vq27_8_3 hsq27_8_4 (yq27_8_1) :: Bx b8 73 [v9, .slice none 0 0, I 0, I 0, I 0, I 0, I 0, I 0, I 0, I 0, I 0, I 0, I 0, I 0] :: Bx b4 26 [.slice none 0 0, .slice none 0 0, .slice none 0 0] :: L)) (listed' := #[true, true, true, true, true, true, true, true, true, false, false, false]) (by kernel_rfl) (by kernel_rfl) ?_
        refine TA.takeW 9 rfl rfl rfl rfl (StepS.nilc rfl) (by kernel_rfl) (by kernel_rfl) (by kernel_rfl) rfl (.inr (fun _ s => Sat.by [2, 2] 2 1 (by kernel_rfl) s)) ?_
        refine TA.takeW 10 rfl rfl rfl rfl (StepS.fld rfl kfieldB_73_0_0_true) (by kernel_rfl) (by kernel_rfl) (by kernel_rfl) rfl (.inr (fun _ s => Sat.by [2, 2] 2 1 (by kernel_rfl) s)) ?_
        refine TA.all1 (i := 11) (by kernel_rfl) ?_
        refine TB.of rfl ?_
        refine TO.pure (fun _ s => Rd.one (SN.top (Ent.at 0 rfl)) s) fun ocq27_11_1 => ?_
        refine TO.stB (us := [vq27_8_3]) 1 [vq27_8_3, .slice none 0 0, I 0, I 0, I 0, I 0, I 0, I 0, I 0, I 0, I 0, I 0, I 0, I 0] rfl rfl rfl ksizeB_70_1_true ocq27_11_1.2 rfl rfl (by intro u hu; simp only [List.mem_cons, List.not_mem_nil, or_false] at hu; rcases hu with rfl <;> first | exact ocq27_11_1.1 | rfl) rfl ?_
        refine TA.back (.inl (by kernel_rfl)) ?_
        refine TA.asL (L' := (SN 77 2 nT77 vq27_8_3 hsq27_8_4 (yq27_8_1) :: Bx b8 73 [vq27_8_3, .slice none 0 0, I 0, I 0, I 0, I 0, I 0, I 0, I 0, I 0, I 0, I 0, I 0, I 0] :: Bx b4 26 [.slice none 0 0, .slice none 0 0, .slice none 0 0] :: L)) (listed' := #[true, true, true, true, true, true, true, true, true, true, true, true]) (by kernel_rfl) (by kernel_rfl) ?_
        refine TA.code (by kernel_rfl) ?_
        refine TC.region ?_
        refine TO.s rfl rfl rfl (StepS.ari rfl rfl rfl) ?_
        refine TO.s rfl rfl rfl (StepS.move rfl) ?_
        cases hb25
        refine TO.nil fun a w e s => ?_
        exact ⟨vq27_8_3, hsq27_8_4, e.sub (lk_of_allIn ⟨rfl, rfl, rfl, rfl, rfl, trivial⟩), s⟩
      · replace hb25 := cond_f hc26 hb25
        cases hb25
        refine TC.exit rfl fun a w e s => ?_
        exact ⟨v9, hs10, e.sub (lk_of_allIn ⟨rfl, rfl, rfl, trivial⟩), s⟩
    · exact fun a w e s => ⟨.slice none 0 0, [], e.sub (lk_of_allIn ⟨rfl, rfl, rfl, rfl, rfl, trivial⟩), s.mono fun _ s => (by replace s := Sat.nilSN (e := 77) (sz := 2) (T := nT77) s; exact Sat.by [2, 2, 2] 3 0 (by kernel_rfl) s)⟩
    · rintro y22 rfl a w ⟨v19, hs20, he, hs⟩
      dsimp only [Ctl.on] at hm
      refine TC.use ?_ he hs
      refine TC.k ?_
      refine TC.region ?_
      refine TO.alloc kinfo_26_bind_zero_some_agg_slice_none_0_0_slice_none_0_0_slice_none_0_0 rfl rfl fun b28 => ?_
      refine TO.code ?_
      refine TC.k ?_
      refine TC.k ?_
      refine TC.region ?_
      refine TO.s rfl rfl rfl (StepS.move rfl) ?_
      refine TO.s rfl rfl rfl (StepS.lenm rfl e1.tl.tl.tl.tl ksliceB_22_47_7_true rfl) ?_
      refine TO.s rfl rfl rfl (StepS.move rfl) ?_
      refine TO.code ?_
      obtain ⟨o64, hw65, hm⟩ := bind_some hm
      refine TC.loop hw65 (fun (y32, y35, y36, z38, z39, x40) => fun a w => ∃ v29 : Value, ∃ hs30 : List (List Value), ∃ v33 : Value, ∃ hs37 : List (List Value), Mid 82 B [(4, .pointer (some ⟨b4, 0, none⟩)), (6, .pointer (some ⟨b8, 0, none⟩)), (7, .pointer (some ⟨b28, 0, none⟩)), (41, h1), (42, I (a1.length : Int)), (43, I x40)] (SN 41 4 nT41 v29 hs30 (y32) :: OwnS 45 4 v33 (y35.map cTissi) :: Bx b28 26 [v29, .slice none 0 0, .slice none 0 0] :: SN 77 2 nT77 v19 hs37 (y36) :: Bx b8 73 [v19, v33, I z38.1, I z38.2.1, I z38.2.2.1, I z38.2.2.2.1, I z38.2.2.2.2.1, I z38.2.2.2.2.2, I z39.1, I z39.2.1, I z39.2.2.1, I z39.2.2.2.1, I z39.2.2.2.2.1, I z39.2.2.2.2.2] :: Bx b4 26 [.slice none 0 0, .slice none 0 0, .slice none 0 0] :: L) a w) (fun (y56, y59, y60, z62, z63) => fun a w => ∃ v53 : Value, ∃ hs54 : List (List Value), ∃ v57 : Value, ∃ hs61 : List (List Value), Mid 82 B [(4, .pointer (some ⟨b4, 0, none⟩)), (6, .pointer (some ⟨b8, 0, none⟩)), (7, .pointer (some ⟨b28, 0, none⟩))] (SN 41 4 nT41 v53 hs54 (y56) :: OwnS 45 4 v57 (y59.map cTissi) :: Bx b28 26 [v53, .slice none 0 0, .slice none 0 0] :: SN 77 2 nT77 v19 hs61 (y60) :: Bx b8 73 [v19, v57, I z62.1, I z62.2.1, I z62.2.2.1, I z62.2.2.2.1, I z62.2.2.2.2.1, I z62.2.2.2.2.2, I z63.1, I z63.2.1, I z63.2.2.1, I z63.2.2.2.1, I z63.2.2.2.2.1, I z63.2.2.2.2.2] :: Bx b4 26 [.slice none 0 0, .slice none 0 0, .slice none 0 0] :: L) a w) (fun (_ : Unit) _ _ => False) ?_ ?_ ?_ ?_
      · rintro ⟨y32, y35, y36, z38, z39, x40⟩ o64r hb66 a w ⟨v29, hs30, v33, hs37, he, hs⟩
        dsimp only [F10_L1] at hb66
        refine TC.use ?_ he hs
        refine TC.k ?_
        refine TC.region ?_
        refine TO.s rfl rfl rfl (StepS.cmp rfl rfl rfl) ?_
        refine TO.code ?_
        refine TC.k ?_
        refine TC.cond rfl (fun hc67 => ?_) (fun hc67 => ?_)
        · replace hb66 := cond_t hc67 hb66
          refine TC.skipk ?_
          refine TC.k ?_
          refine TC.block ?_
          refine TC.k ?_
          refine TC.region ?_
          obtain ⟨x68, hx69, hb66⟩ := bind_some hb66
          refine TO.s rfl rfl rfl (StepS.idx rfl rfl e1.tl.tl.tl.tl.tl.tl ksliceB_22_47_7_true (idx_spec hx69).1 (idxm_lt hx69)) ?_
          refine TO.s rfl rfl rfl (StepS.ldE rfl e1.tl.tl.tl.tl.tl.tl kaggB_47_7_true rfl (idxm hx69)) ?_
          refine TO.alloc kinfo_47_bind_zero_some_agg_I_0_I_0_I_0_I_0_string_ByteArray_empty_string_ByteArray_empty_I_0 rfl rfl fun b70 => ?_
          refine TO.stB (us := [I x68.1, I x68.2.1, I x68.2.2.1, I x68.2.2.2.1, .string x68.2.2.2.2.1, .string x68.2.2.2.2.2.1, I x68.2.2.2.2.2.2]) 0 [I x68.1, I x68.2.1, I x68.2.2.1, I x68.2.2.2.1, .string x68.2.2.2.2.1, .string x68.2.2.2.2.2.1, I x68.2.2.2.2.2.2] rfl rfl rfl ksizeB_47_7_true rfl rfl rfl (by simp [Value.oneCell']) rfl ?_
          refine TO.code ?_
          refine TC.region_any (Bx b70 47 [I x68.1, I x68.2.1, I x68.2.2.1, I x68.2.2.2.1, .string x68.2.2.2.2.1, .string x68.2.2.2.2.2.1, I x68.2.2.2.2.2.2] :: Bx b28 26 [v29, .slice none 0 0, .slice none 0 0] :: Bx b4 26 [.slice none 0 0, .slice none 0 0, .slice none 0 0] :: L) 8 9 kfollows_mixedOrders_true rfl ?_
          refine TA.takeW 0 rfl rfl rfl rfl (StepS.fld rfl kfieldB_26_0_0_true) (by kernel_rfl) (by kernel_rfl) (by kernel_rfl) rfl (.inr (fun _ s => Sat.by [6, 4, 2] 3 4 (by kernel_rfl) s)) ?_
          refine TA.take 1 rfl rfl rfl rfl (StepS.ldB rfl (Ent.at 1 rfl) kscalB_23_true rfl) (by kernel_rfl) (by kernel_rfl) (by kernel_rfl) (by kernel_rfl) (by kernel_rfl) (fun _ s => Sat.by [6, 4, 2] 3 4 (by kernel_rfl) s) ?_
          refine TA.takeW 2 rfl rfl rfl rfl (StepS.move rfl) (by kernel_rfl) (by kernel_rfl) (by kernel_rfl) rfl (.inr (fun _ s => Sat.by [6, 4, 2] 3 4 (by kernel_rfl) s)) ?_
          refine TA.take 3 rfl rfl rfl rfl (StepS.ldBA rfl (Ent.at 0 rfl) kaggB_47_7_true rfl rfl) (by kernel_rfl) (by kernel_rfl) (by kernel_rfl) (by kernel_rfl) (by kernel_rfl) (fun _ s => Sat.by [6, 4, 2] 3 4 (by kernel_rfl) s) ?_
          refine TA.all1 (i := 4) (by kernel_rfl) ?_
          refine TB.of rfl ?_
          refine TO.ghost (fun _ s => Sat.front 2 rfl s) ?_
          refine TO.ghost (fun _ s => Sat.front 4 rfl s) ?_
          refine TO.ghost (fun _ s => Sat.front 5 rfl s) ?_
          obtain ⟨⟨rq71_4_1, rq71_4_2⟩, hcq71_4_3, hb66⟩ := bind_some hb66
          refine TO.callO kcallB_27_true rfl rfl rfl (fun _ st => C27 (a0 := (y36, y35, z38, z39))  hcq71_4_3 st) ?_
          rintro _ _ ⟨hsq71_4_4, vq71_4_6, vq71_4_8, rfl, rfl⟩
          refine TA.back (.inr (fun _ s => Sat.by [7, 7, 6] 3 5 (by kernel_rfl) s)) ?_
          refine TA.asL (L' := (Bx b8 73 [v19, vq71_4_6, I rq71_4_2.2.2.1.1, I rq71_4_2.2.2.1.2.1, I rq71_4_2.2.2.1.2.2.1, I rq71_4_2.2.2.1.2.2.2.1, I rq71_4_2.2.2.1.2.2.2.2.1, I rq71_4_2.2.2.1.2.2.2.2.2, I rq71_4_2.2.2.2.1, I rq71_4_2.2.2.2.2.1, I rq71_4_2.2.2.2.2.2.1, I rq71_4_2.2.2.2.2.2.2.1, I rq71_4_2.2.2.2.2.2.2.2.1, I rq71_4_2.2.2.2.2.2.2.2.2] :: SN 77 2 nT77 v19 hsq71_4_4 (rq71_4_2.1) :: OwnS 45 4 vq71_4_6 (rq71_4_2.2.1.map cTissi) :: OwnS 9 1 vq71_4_8 (rq71_4_1.2.2.2.map cS) :: Bx b70 47 [I x68.1, I x68.2.1, I x68.2.2.1, I x68.2.2.2.1, .string x68.2.2.2.2.1, .string x68.2.2.2.2.2.1, I x68.2.2.2.2.2.2] :: SN 41 4 nT41 v29 hs30 (y32) :: Bx b28 26 [v29, .slice none 0 0, .slice none 0 0] :: Bx b4 26 [.slice none 0 0, .slice none 0 0, .slice none 0 0] :: L)) (listed' := #[true, true, true, true, true, false, false, false, false]) (by kernel_rfl) (by kernel_rfl) ?_
          refine TA.all1 (i := 5) (by kernel_rfl) ?_
          refine TB.of rfl ?_
          refine TO.litS (f := fun (_ : Unit) => [I rq71_4_1.1, .string rq71_4_1.2.1, I rq71_4_1.2.2.1, vq71_4_8]) [()] kelemB_23_41_4_56_true kinfo_41_bind_zero_some_agg_I_0_string_ByteArray_empty_I_0_slice_none_0_0 rfl rfl (fun _ => rfl) rfl rfl (by kernel_rfl) rfl fun vq71_5_1 => ?_
          refine TA.back (.inr (fun _ s => Sat.by [8, 8, 7] 3 6 (by kernel_rfl) s)) ?_
          refine TA.asL (L' := (OwnS 41 4 vq71_5_1 ([()].map (fun (_ : Unit) => [I rq71_4_1.1, .string rq71_4_1.2.1, I rq71_4_1.2.2.1, vq71_4_8])) :: Bx b8 73 [v19, vq71_4_6, I rq71_4_2.2.2.1.1, I rq71_4_2.2.2.1.2.1, I rq71_4_2.2.2.1.2.2.1, I rq71_4_2.2.2.1.2.2.2.1, I rq71_4_2.2.2.1.2.2.2.2.1, I rq71_4_2.2.2.1.2.2.2.2.2, I rq71_4_2.2.2.2.1, I rq71_4_2.2.2.2.2.1, I rq71_4_2.2.2.2.2.2.1, I rq71_4_2.2.2.2.2.2.2.1, I rq71_4_2.2.2.2.2.2.2.2.1, I rq71_4_2.2.2.2.2.2.2.2.2] :: SN 77 2 nT77 v19 hsq71_4_4 (rq71_4_2.1) :: OwnS 45 4 vq71_4_6 (rq71_4_2.2.1.map cTissi) :: OwnS 9 1 vq71_4_8 (rq71_4_1.2.2.2.map cS) :: Bx b70 47 [I x68.1, I x68.2.1, I x68.2.2.1, I x68.2.2.2.1, .string x68.2.2.2.2.1, .string x68.2.2.2.2.2.1, I x68.2.2.2.2.2.2] :: SN 41 4 nT41 v29 hs30 (y32) :: Bx b28 26 [v29, .slice none 0 0, .slice none 0 0] :: Bx b4 26 [.slice none 0 0, .slice none 0 0, .slice none 0 0] :: L)) (listed' := #[true, true, true, true, true, true, false, false, false]) (by kernel_rfl) (by kernel_rfl) ?_
          refine TA.all1 (i := 6) (by kernel_rfl) ?_
          refine TB.of rfl ?_
          refine TO.pure (fun _ s => Rd.one (OwnS.rd (Ent.at 4 rfl)) s) fun ocq71_6_1 => ?_
          refine TO.ghost (fun _ s => Sat.front 6 rfl s) ?_
          refine TO.ghost (fun _ s => Sat.front 5 rfl s) ?_
          obtain ⟨yq71_6_2, hkq71_6_3, hb66⟩ := bind_some hb66
          refine TO.appN (T := nT41) (z := (rq71_4_1.1, rq71_4_1.2.1, rq71_4_1.2.2.1, rq71_4_1.2.2.2)) [vq71_4_8] rfl kelemB_23_41_4_56_true (by decide) rfl rfl (OwnS.rd (Ent.at 0 rfl)) hkq71_6_3 (by intro u hu; have hu : u ∈ [I rq71_4_1.1, .string rq71_4_1.2.1, I rq71_4_1.2.2.1, vq71_4_8] := hu; simp only [List.mem_cons, List.not_mem_nil, or_false] at hu; rcases hu with rfl | rfl | rfl | rfl <;> first | rfl | exact ocq71_6_1.1) rfl rfl fun vq71_6_4 hsq71_6_5 => ?_
          refine TO.ghost (fun _ s => Sat.erase 1 s) ?_
          refine TA.back (.inr (fun _ s => Sat.by [6, 6, 6] 3 4 (by kernel_rfl) s)) ?_
          refine TA.asL (L' := (SN 41 4 nT41 vq71_6_4 hsq71_6_5 (yq71_6_2) :: Bx b8 73 [v19, vq71_4_6, I rq71_4_2.2.2.1.1, I rq71_4_2.2.2.1.2.1, I rq71_4_2.2.2.1.2.2.1, I rq71_4_2.2.2.1.2.2.2.1, I rq71_4_2.2.2.1.2.2.2.2.1, I rq71_4_2.2.2.1.2.2.2.2.2, I rq71_4_2.2.2.2.1, I rq71_4_2.2.2.2.2.1, I rq71_4_2.2.2.2.2.2.1, I rq71_4_2.2.2.2.2.2.2.1, I rq71_4_2.2.2.2.2.2.2.2.1, I rq71_4_2.2.2.2.2.2.2.2.2] :: SN 77 2 nT77 v19 hsq71_4_4 (rq71_4_2.1) :: OwnS 45 4 vq71_4_6 (rq71_4_2.2.1.map cTissi) :: Bx b70 47 [I x68.1, I x68.2.1, I x68.2.2.1, I x68.2.2.2.1, .string x68.2.2.2.2.1, .string x68.2.2.2.2.2.1, I x68.2.2.2.2.2.2] :: Bx b28 26 [v29, .slice none 0 0, .slice none 0 0] :: Bx b4 26 [.slice none 0 0, .slice none 0 0, .slice none 0 0] :: L)) (listed' := #[true, true, true, true, true, true, true, false, false]) (by kernel_rfl) (by kernel_rfl) ?_
          refine TA.takeW 7 rfl rfl rfl rfl (StepS.fld rfl kfieldB_26_0_0_true) (by kernel_rfl) (by kernel_rfl) (by kernel_rfl) rfl (.inr (fun _ s => Sat.by [6, 6, 6] 3 4 (by kernel_rfl) s)) ?_
          refine TA.all1 (i := 8) (by kernel_rfl) ?_
          refine TB.of rfl ?_
          refine TO.pure (fun _ s => Rd.one (SN.top (Ent.at 0 rfl)) s) fun ocq71_8_1 => ?_
          refine TO.stB (us := [vq71_6_4]) 5 [vq71_6_4, .slice none 0 0, .slice none 0 0] rfl rfl rfl ksizeB_23_1_true ocq71_8_1.2 rfl rfl (by intro u hu; simp only [List.mem_cons, List.not_mem_nil, or_false] at hu; rcases hu with rfl <;> first | exact ocq71_8_1.1 | rfl) rfl ?_
          refine TA.back (.inl (by kernel_rfl)) ?_
          refine TA.asL (L' := (SN 41 4 nT41 vq71_6_4 hsq71_6_5 (yq71_6_2) :: Bx b8 73 [v19, vq71_4_6, I rq71_4_2.2.2.1.1, I rq71_4_2.2.2.1.2.1, I rq71_4_2.2.2.1.2.2.1, I rq71_4_2.2.2.1.2.2.2.1, I rq71_4_2.2.2.1.2.2.2.2.1, I rq71_4_2.2.2.1.2.2.2.2.2, I rq71_4_2.2.2.2.1, I rq71_4_2.2.2.2.2.1, I rq71_4_2.2.2.2.2.2.1, I rq71_4_2.2.2.2.2.2.2.1, I rq71_4_2.2.2.2.2.2.2.2.1, I rq71_4_2.2.2.2.2.2.2.2.2] :: SN 77 2 nT77 v19 hsq71_4_4 (rq71_4_2.1) :: OwnS 45 4 vq71_4_6 (rq71_4_2.2.1.map cTissi) :: Bx b70 47 [I x68.1, I x68.2.1, I x68.2.2.1, I x68.2.2.2.1, .string x68.2.2.2.2.1, .string x68.2.2.2.2.2.1, I x68.2.2.2.2.2.2] :: Bx b28 26 [vq71_6_4, .slice none 0 0, .slice none 0 0] :: Bx b4 26 [.slice none 0 0, .slice none 0 0, .slice none 0 0] :: L)) (listed' := #[true, true, true, true, true, true, true, true, true]) (by kernel_rfl) (by kernel_rfl) ?_
          refine TA.code (by kernel_rfl) ?_
          refine TC.region ?_
          refine TO.s rfl rfl rfl (StepS.ari rfl rfl rfl) ?_
          refine TO.s rfl rfl rfl (StepS.move rfl) ?_
          cases hb66
          refine TO.nil fun a w e s => ?_
          exact ⟨vq71_6_4, hsq71_6_5, vq71_4_6, hsq71_4_4, e.sub (lk_of_allIn ⟨rfl, rfl, rfl, rfl, rfl, rfl, trivial⟩), s.mono fun _ s => (by exact Sat.by [6, 2, 3, 6, 5, 5] 6 1 (by kernel_rfl) s)⟩
        · replace hb66 := cond_f hc67 hb66
          cases hb66
          refine TC.exit rfl fun a w e s => ?_
          exact ⟨v29, hs30, v33, hs37, e.sub (lk_of_allIn ⟨rfl, rfl, rfl, trivial⟩), s⟩
      · exact fun a w e s => ⟨.slice none 0 0, [], .slice none 0 0, hs20, e.sub (lk_of_allIn ⟨rfl, rfl, rfl, rfl, rfl, rfl, trivial⟩), s.mono fun _ s => (by replace s := Sat.nilS (e := 45) (sz := 4) (f := cTissi) s; replace s := Sat.nilSN (e := 41) (sz := 4) (T := nT41) s; exact Sat.by [5, 5, 5, 5, 5, 5] 6 0 (by kernel_rfl) s)⟩
      · rintro ⟨y56, y59, y60, z62, z63⟩ rfl a w ⟨v53, hs54, v57, hs61, he, hs⟩
        dsimp only [Ctl.on] at hm
        refine TC.use ?_ he hs
        refine TC.k ?_
        refine TC.k ?_
        refine TC.region ?_
        refine TO.s rfl rfl rfl (StepS.move rfl) ?_
        refine TO.s rfl rfl rfl (StepS.nilc rfl) ?_
        refine TO.s rfl rfl rfl (StepS.fld rfl kfieldB_73_0_0_true) ?_
        refine TO.s rfl rfl rfl (StepS.ldB rfl (Ent.at 4 rfl) kscalB_70_true rfl) ?_
        refine TO.s rfl rfl rfl (StepS.lenN rfl (Ent.at 3 rfl) ksliceB_70_77_2_true rfl) ?_
        refine TO.s rfl rfl rfl (StepS.move rfl) ?_
        refine TO.code ?_
        obtain ⟨o83, hw84, hm⟩ := bind_some hm
        refine TC.loop hw84 (fun (y74, x75) => fun a w => ∃ v72 : Value, Mid 82 B [(4, .pointer (some ⟨b4, 0, none⟩)), (6, .pointer (some ⟨b8, 0, none⟩)), (7, .pointer (some ⟨b28, 0, none⟩)), (59, v19), (60, I (y60.length : Int)), (61, I x75)] (OwnS 3 1 v72 (y74.map cI) :: SN 41 4 nT41 v53 hs54 (y56) :: OwnS 45 4 v57 (y59.map cTissi) :: Bx b28 26 [v53, v72, .slice none 0 0] :: SN 77 2 nT77 v19 hs61 (y60) :: Bx b8 73 [v19, v57, I z62.1, I z62.2.1, I z62.2.2.1, I z62.2.2.2.1, I z62.2.2.2.2.1, I z62.2.2.2.2.2, I z63.1, I z63.2.1, I z63.2.2.1, I z63.2.2.2.1, I z63.2.2.2.2.1, I z63.2.2.2.2.2] :: Bx b4 26 [.slice none 0 0, .slice none 0 0, .slice none 0 0] :: L) a w) (fun y82 => fun a w => ∃ v80 : Value, Mid 82 B [(4, .pointer (some ⟨b4, 0, none⟩)), (6, .pointer (some ⟨b8, 0, none⟩)), (7, .pointer (some ⟨b28, 0, none⟩))] (OwnS 3 1 v80 (y82.map cI) :: SN 41 4 nT41 v53 hs54 (y56) :: OwnS 45 4 v57 (y59.map cTissi) :: Bx b28 26 [v53, v80, .slice none 0 0] :: SN 77 2 nT77 v19 hs61 (y60) :: Bx b8 73 [v19, v57, I z62.1, I z62.2.1, I z62.2.2.1, I z62.2.2.2.1, I z62.2.2.2.2.1, I z62.2.2.2.2.2, I z63.1, I z63.2.1, I z63.2.2.1, I z63.2.2.2.1, I z63.2.2.2.2.1, I z63.2.2.2.2.2] :: Bx b4 26 [.slice none 0 0, .slice none 0 0, .slice none 0 0] :: L) a w) (fun (_ : Unit) _ _ => False) ?_ ?_ ?_ ?_
        · rintro ⟨y74, x75⟩ o83r hb85 a w ⟨v72, he, hs⟩
          dsimp only [F10_L2] at hb85
          refine TC.use ?_ he hs
          refine TC.k ?_
          refine TC.region ?_
          refine TO.s rfl rfl rfl (StepS.cmp rfl rfl rfl) ?_
          refine TO.code ?_
          refine TC.k ?_
          refine TC.cond rfl (fun hc86 => ?_) (fun hc86 => ?_)
          · replace hb85 := cond_t hc86 hb85
            refine TC.skipk ?_
            refine TC.k ?_
            refine TC.block ?_
            refine TC.k ?_
            refine TC.region ?_
            obtain ⟨x87, hx88, hb85⟩ := bind_some hb85
            refine TO.s rfl rfl rfl (StepS.idxN rfl rfl (Ent.at 4 rfl) ksliceB_70_77_2_true hx88) ?_
            refine TO.s rfl rfl rfl (StepS.ldNE (cs := [.pointer (some ⟨(pq (cv (gr hs61 x75.toNat) 0)), 0, none⟩), I x87.2]) rfl (Ent.at 4 rfl) kaggB_77_2_true hx88 rfl rfl) ?_
            refine TO.alloc kinfo_77_bind_zero_some_agg_pointer_none_I_0 rfl rfl fun b89 => ?_
            refine TO.stB (us := [.pointer (some ⟨(pq (cv (gr hs61 x75.toNat) 0)), 0, none⟩), I x87.2]) 0 [.pointer (some ⟨(pq (cv (gr hs61 x75.toNat) 0)), 0, none⟩), I x87.2] rfl rfl rfl ksizeB_77_2_true rfl rfl rfl (by simp [Value.oneCell']) rfl ?_
            refine TO.code ?_
            refine TC.region ?_
            refine TO.s rfl rfl rfl (StepS.fld rfl kfieldB_26_1_1_true) ?_
            refine TO.s rfl rfl rfl (StepS.ldB rfl (Ent.at 4 rfl) kscalB_24_true rfl) ?_
            refine TO.s rfl rfl rfl (StepS.fld rfl kfieldB_77_1_1_true) ?_
            refine TO.s rfl rfl rfl (StepS.ldB rfl (Ent.at 0 rfl) kscalB_3_true rfl) ?_
            refine TO.litS (f := cI) ([x87.2] : List Int) kelemB_24_3_1_8_true kinfo_3_bind_zero_some_I_0 rfl rfl (fun _ => rfl) rfl rfl (by kernel_rfl) rfl fun v90 => ?_
            obtain ⟨y92, hk93, hb85⟩ := bind_some hb85
            refine TO.app (k := 2) (f := cI) kelemB_24_3_1_8_true (by decide) rfl rfl rfl (OwnS.rd (Ent.at 0 rfl)) hk93 (fun x c hc => by simp [Value.oneCell'] at hc ⊢; first | (obtain rfl := hc; rfl) | (rcases hc with rfl <;> rfl)) rfl rfl fun v94 => ?_
            refine TO.s rfl rfl rfl (StepS.fld rfl kfieldB_26_1_1_true) ?_
            refine TO.pure (fun _ s => Rd.one (OwnS.rd (Ent.at 2 rfl)) s) fun oc95 => ?_
            refine TO.stB (us := [v94]) 5 [v53, v94, .slice none 0 0] rfl rfl rfl ksizeB_24_1_true oc95.2 rfl rfl (by intro u hu; simp only [List.mem_cons, List.not_mem_nil, or_false] at hu; rcases hu with rfl <;> first | exact oc95.1 | rfl) rfl ?_
            refine TO.code ?_
            refine TC.region ?_
            refine TO.s rfl rfl rfl (StepS.ari rfl rfl rfl) ?_
            refine TO.s rfl rfl rfl (StepS.move rfl) ?_
            cases hb85
            refine TO.nil fun a w e s => ?_
            exact ⟨v94, e.sub (lk_of_allIn ⟨rfl, rfl, rfl, rfl, rfl, rfl, trivial⟩), s.mono fun _ => Sat.dropN 2⟩
          · replace hb85 := cond_f hc86 hb85
            cases hb85
            refine TC.exit rfl fun a w e s => ?_
            exact ⟨v72, e.sub (lk_of_allIn ⟨rfl, rfl, rfl, trivial⟩), s⟩
        · exact fun a w e s => ⟨.slice none 0 0, e.sub (lk_of_allIn ⟨rfl, rfl, rfl, rfl, rfl, rfl, trivial⟩), s.mono fun _ s => (by replace s := Sat.nilS (e := 3) (sz := 1) (f := cI) s; exact Sat.by [6, 6, 6, 6, 6, 6, 6] 7 0 (by kernel_rfl) s)⟩
        · rintro y82 rfl a w ⟨v80, he, hs⟩
          dsimp only [Ctl.on] at hm
          refine TC.use ?_ he hs
          refine TC.k ?_
          refine TC.region_tail 6 kfollows_mixedOrders_true (by kernel_rfl) ?_
          refine TS.s rfl rfl rfl (StepS.fld rfl kfieldB_26_2_2_true) ?_
          refine TS.s rfl rfl rfl (StepS.ldB rfl (Ent.at 3 rfl) kscalB_24_true rfl) ?_
          refine TS.s rfl rfl rfl (StepS.move rfl) ?_
          refine TS.s rfl rfl rfl (StepS.nilc rfl) ?_
          refine TS.s rfl rfl rfl (StepS.fld rfl kfieldB_73_3_8_true) ?_
          refine TS.s rfl rfl rfl (StepS.slcArr rfl karrB_71_6_3_1_true rfl) ?_
          refine TS.nil ?_
          refine TO.at ?_
          refine TO.ghost (fun _ => Sat.nilS (e := 3) (sz := 1) (f := cI)) ?_
          obtain ⟨y98, hk99, hm⟩ := bind_some hm
          refine TO.app (k := 0) (f := cI) kelemB_24_3_1_8_true (by decide) rfl rfl rfl (Bx.rdA (n := 6) (f := cI) (fv := fun x => I x) (l := (tl6 z63)) (Ent.at 6 rfl) rfl rfl (fun _ => rfl) (by decide)) hk99 (fun x c hc => by simp [Value.oneCell'] at hc ⊢; first | (obtain rfl := hc; rfl) | (rcases hc with rfl <;> rfl)) rfl rfl fun v100 => ?_
          refine TO.s rfl rfl rfl (StepS.fld rfl kfieldB_26_2_2_true) ?_
          refine TO.pure (fun _ s => Rd.one (OwnS.rd (Ent.at 0 rfl)) s) fun oc101 => ?_
          refine TO.stB (us := [v100]) 4 [v53, v80, v100] rfl rfl rfl ksizeB_24_1_true oc101.2 rfl rfl (by intro u hu; simp only [List.mem_cons, List.not_mem_nil, or_false] at hu; rcases hu with rfl <;> first | exact oc101.1 | rfl) rfl ?_
          refine TO.code ?_
          refine TC.k ?_
          refine TC.region ?_
          refine TO.s rfl rfl rfl (StepS.ldBA rfl (Ent.at 4 rfl) kaggB_26_3_true rfl rfl) ?_
          refine TO.pure (fun _ s => Rd.one (SN.top (Ent.at 2 rfl)) s) fun oc102 => ?_
          refine TO.pure (fun _ s => Rd.one (OwnS.rd (Ent.at 1 rfl)) s) fun oc103 => ?_
          refine TO.pure (fun _ s => Rd.one (OwnS.rd (Ent.at 0 rfl)) s) fun oc104 => ?_
          refine TO.stB (us := [v53, v80, v100]) 7 [v53, v80, v100] rfl rfl rfl ksizeB_26_3_true rfl rfl rfl (by intro u hu; simp only [List.mem_cons, List.not_mem_nil, or_false] at hu; rcases hu with rfl | rfl | rfl <;> first | exact oc102.1 | exact oc103.1 | exact oc104.1 | rfl) rfl ?_
          refine TO.s rfl rfl rfl (StepS.assign rfl) ?_
          refine TO.code ?_
          cases hm
          refine TC.ret fun a w e s => ?_
          refine FRet.cell2 (P := Tryd.prog) (fn := Tryd.f10) e s rfl rfl rfl (Ent.at 7 rfl) kaggB_26_3_true rfl ?_
          refine ⟨_, _, rfl, ⟨(v53), (hs54), (v80), (v100), rfl, rfl⟩, ?_⟩
          refine s.mono fun _ s => ?_
          replace s := Sat.front 0 rfl s
          replace s := Sat.front 1 rfl s
          replace s := Sat.front 2 rfl s
          replace s := Sat.erase 3 s
          replace s := Sat.erase 3 s
          replace s := Sat.erase 3 s
          replace s := Sat.erase 3 s
          replace s := Sat.erase 3 s
          exact s
        · rintro r rfl
          exact fun a w h => h.elim
      · rintro r rfl
        exact fun a w h => h.elim
    · rintro r rfl
      exact fun a w h => h.elim

set_option maxRecDepth 100000 in
theorem C11 {B : World} {L : List HP} {a0 : Int} {a1 : Int} {r0 : Int} (hm : F11 a0 a1 = some r0) {w : World} (st : St B L w) : Calls Tryd.prog 11 #[I a0, I a1] w (fun e w' => (e = .returned (I r0) ∧ St B (L) w')) := by
  refine calls_of (N := 15) (L := L) (args := [I a0, I a1]) Tryd.func11 rfl rfl rfl ?_ st
  dsimp only [F11] at hm
  refine TC.k ?_
  refine TC.region ?_
  refine TO.s rfl rfl rfl (StepS.assign rfl) ?_
  refine TO.code ?_
  refine TC.k ?_
  refine TC.k ?_
  refine TC.region ?_
  refine TO.s rfl rfl rfl (StepS.move rfl) ?_
  refine TO.s rfl rfl rfl (StepS.cmp rfl rfl rfl) ?_
  refine TO.s rfl rfl rfl (StepS.move rfl) ?_
  refine TO.mid1 3 10 (.bool ((decide (a0 < 1)) || (decide (a0 > 6)))) ?_ ?_
  · refine bcase ((decide (a0 < 1))) (fun hb1 => ?_) (fun hb1 => ?_)
    · refine TO.skip rfl rfl rfl (skipT hb1) rfl rfl ?_
      refine TO.skip rfl rfl rfl (skipT hb1) rfl rfl ?_
      refine TO.s rfl rfl rfl (StepS.pickT rfl hb1 rfl) ?_
      exact TO.up1 3 0 rfl rfl (by rw [hb1]; rfl) rfl
    · refine TO.sw rfl rfl rfl hb1 rfl rfl (StepS.move rfl) ?_
      refine TO.sw rfl rfl rfl hb1 rfl rfl (StepS.cmp rfl rfl rfl) ?_
      refine TO.s rfl rfl rfl (StepS.pickF rfl hb1 rfl) ?_
      exact TO.up1 3 0 rfl rfl (by rw [hb1]; rfl) rfl
  refine TO.s rfl rfl rfl (StepS.move rfl) ?_
  refine TO.mid1 3 14 (.bool (((decide (a0 < 1)) || (decide (a0 > 6))) || (decide (a1 > 60)))) ?_ ?_
  · refine bcase (((decide (a0 < 1)) || (decide (a0 > 6)))) (fun hb2 => ?_) (fun hb2 => ?_)
    · refine TO.skip rfl rfl rfl (skipT hb2) rfl rfl ?_
      refine TO.skip rfl rfl rfl (skipT hb2) rfl rfl ?_
      refine TO.s rfl rfl rfl (StepS.pickT rfl hb2 rfl) ?_
      exact TO.up1 3 0 rfl rfl (by rw [hb2]; rfl) rfl
    · refine TO.sw rfl rfl rfl hb2 rfl rfl (StepS.move rfl) ?_
      refine TO.sw rfl rfl rfl hb2 rfl rfl (StepS.cmp rfl rfl rfl) ?_
      refine TO.s rfl rfl rfl (StepS.pickF rfl hb2 rfl) ?_
      exact TO.up1 3 0 rfl rfl (by rw [hb2]; rfl) rfl
  refine TO.code ?_
  refine TC.cond rfl (fun hc3 => ?_) (fun hc3 => ?_)
  · replace hm := cond_t hc3 hm
    refine TC.k ?_
    refine TC.region ?_
    refine TO.s rfl rfl rfl (StepS.assign rfl) ?_
    refine TO.code ?_
    cases hm
    refine TC.ret fun a w e s => ?_
    refine FRet.mk1 (P := Tryd.prog) (fn := Tryd.f11) (t := 4) e rfl rfl ?_
    exact ⟨rfl, s.mono fun _ => Sat.dropN 0⟩
  · replace hm := cond_f hc3 hm
    refine TC.skipk ?_
    refine TC.k ?_
    refine TC.region ?_
    refine TO.s rfl rfl rfl (StepS.assign rfl) ?_
    refine TO.code ?_
    cases hm
    refine TC.ret fun a w e s => ?_
    refine FRet.mk1 (P := Tryd.prog) (fn := Tryd.f11) (t := 4) e rfl rfl ?_
    exact ⟨rfl, s.mono fun _ => Sat.dropN 0⟩

set_option maxHeartbeats 1000000 in
set_option maxRecDepth 100000 in
theorem C25 {B : World} {L : List HP} {a0 : Int} {a1 : List (Int × Int × Int × Int × ByteArray × ByteArray × Int)} {h1 : Value} {r0 : (List (Int × ByteArray × Int × List ByteArray)) × (List Int) × List Int} (e1 : Ent L (Rd 7 h1 (a1.map cTiiiissi))) (hm : F25 a0 a1 = some r0) {w : World} (st : St B L w) : Calls Tryd.prog 25 #[I a0, h1] w (fun e w' => ∃ v M, e = .returned v ∧ (∃ (qv1 : Value) (qhs2 : List (List Value)) (qv3 : Value) (qv4 : Value), v = .agg #[qv1, qv3, qv4] ∧ M = (SN 41 4 nT41 qv1 qhs2 (r0.1) :: OwnS 3 1 qv3 (r0.2.1.map cI) :: OwnS 3 1 qv4 (r0.2.2.map cI) :: L)) ∧ St B M w') := by
  refine calls_of (N := 215) (L := L) (args := [I a0, h1]) Tryd.func25 rfl rfl rfl ?_ st
  dsimp only [F25] at hm
  refine TC.k ?_
  refine TC.region ?_
  refine TO.alloc kinfo_26_bind_zero_some_agg_slice_none_0_0_slice_none_0_0_slice_none_0_0 rfl rfl fun b4 => ?_
  refine TO.code ?_
  refine TC.k ?_
  obtain ⟨⟨y8, y11⟩, hj12, hm⟩ := bind_some hm
  first | refine TC.cutM (fun a w => ∃ v6 : Value, ∃ v9 : Value, ∃ bq5_4_1 : Nat, Mid 215 B [(0, I a0), (1, h1), (4, .pointer (some ⟨b4, 0, none⟩)), (5, .pointer (some ⟨bq5_4_1, 0, none⟩))] (OwnS 3 1 v6 (y8.map cI) :: OwnS 3 1 v9 (y11.map cI) :: Bx bq5_4_1 26 [.slice none 0 0, v6, v9] :: Bx b4 26 [.slice none 0 0, .slice none 0 0, .slice none 0 0] :: L) a w) ?_ ?_ | refine TC.cutX (fun a w => ∃ v6 : Value, ∃ v9 : Value, ∃ bq5_4_1 : Nat, Mid 215 B [(0, I a0), (1, h1), (4, .pointer (some ⟨b4, 0, none⟩)), (5, .pointer (some ⟨bq5_4_1, 0, none⟩))] (OwnS 3 1 v6 (y8.map cI) :: OwnS 3 1 v9 (y11.map cI) :: Bx bq5_4_1 26 [.slice none 0 0, v6, v9] :: Bx b4 26 [.slice none 0 0, .slice none 0 0, .slice none 0 0] :: L) a w) ?_ ?_
  · obtain ⟨yq5_1_1, hkq5_1_2, hj12⟩ := bind_some hj12
    obtain ⟨yq5_2_1, hkq5_2_2, hj12⟩ := bind_some hj12
    refine TC.region_any (Bx b4 26 [.slice none 0 0, .slice none 0 0, .slice none 0 0] :: L) 5 6 kfollows_mixedOrders_true rfl ?_
    refine TA.takeW 0 rfl rfl rfl rfl (StepS.move rfl) (by kernel_rfl) (by kernel_rfl) (by kernel_rfl) rfl (.inr (fun _ s => s)) ?_
    refine TA.lem (γ := Value × Value × Nat) 0 #[true, true, true, true, true, true] (fun (vq5_1_3, vq5_2_3, bq5_4_1) => [(0, I a0), (1, h1), (4, .pointer (some ⟨b4, 0, none⟩)), (5, .pointer (some ⟨bq5_4_1, 0, none⟩))]) (fun (vq5_1_3, vq5_2_3, bq5_4_1) => (OwnS 3 1 vq5_1_3 (yq5_1_1.map cI) :: OwnS 3 1 vq5_2_3 (yq5_2_1.map cI) :: Bx bq5_4_1 26 [.slice none 0 0, vq5_1_3, vq5_2_3] :: Bx b4 26 [.slice none 0 0, .slice none 0 0, .slice none 0 0] :: L)) ?_ fun hSq5_0 => ?_
    · rintro ⟨vq5_1_3, vq5_2_3, bq5_4_1⟩
      cases hj12
      refine TA.nil (by kernel_rfl) fun a w e s => ?_
      exact ⟨vq5_1_3, vq5_2_3, bq5_4_1, e.sub (lk_of_allIn ⟨rfl, rfl, rfl, rfl, trivial⟩), s⟩
    refine TA.lem (γ := Value × Value × Nat) 1 #[true, true, true, true, true, false] (fun (vq5_1_3, vq5_2_3, bq5_4_1) => [(0, I a0), (1, h1), (4, .pointer (some ⟨b4, 0, none⟩)), (5, .pointer (some ⟨bq5_4_1, 0, none⟩)), (23, .agg #[.slice none 0 0, vq5_1_3, vq5_2_3])]) (fun (vq5_1_3, vq5_2_3, bq5_4_1) => (OwnS 3 1 vq5_1_3 (yq5_1_1.map cI) :: OwnS 3 1 vq5_2_3 (yq5_2_1.map cI) :: Bx bq5_4_1 26 [.slice none 0 0, .slice none 0 0, .slice none 0 0] :: Bx b4 26 [.slice none 0 0, .slice none 0 0, .slice none 0 0] :: L)) ?_ fun hSq5_1 => ?_
    · rintro ⟨vq5_1_3, vq5_2_3, bq5_4_1⟩
      refine TA.all1 (i := 5) (by kernel_rfl) ?_
      · refine TB.of rfl ?_
        refine TO.pure (fun _ s => Rd.one (OwnS.rd (Ent.at 0 rfl)) s) fun ocq5_5_1 => ?_
        refine TO.pure (fun _ s => Rd.one (OwnS.rd (Ent.at 1 rfl)) s) fun ocq5_5_2 => ?_
        refine TO.stB (us := [.slice none 0 0, vq5_1_3, vq5_2_3]) 2 [.slice none 0 0, vq5_1_3, vq5_2_3] rfl rfl rfl ksizeB_26_3_true rfl rfl rfl (by intro u hu; simp only [List.mem_cons, List.not_mem_nil, or_false] at hu; rcases hu with rfl | rfl | rfl <;> first | exact ocq5_5_1.1 | exact ocq5_5_2.1 | rfl) rfl ?_
        refine TA.back (.inl (by kernel_rfl)) ?_
        refine TA.asL (L' := (OwnS 3 1 vq5_1_3 (yq5_1_1.map cI) :: OwnS 3 1 vq5_2_3 (yq5_2_1.map cI) :: Bx bq5_4_1 26 [.slice none 0 0, vq5_1_3, vq5_2_3] :: Bx b4 26 [.slice none 0 0, .slice none 0 0, .slice none 0 0] :: L)) (listed' := #[true, true, true, true, true, true]) (by kernel_rfl) (by kernel_rfl) ?_
        exact TA.jump hSq5_0 (vq5_1_3, vq5_2_3, bq5_4_1) rfl (by kernel_rfl) ⟨rfl, rfl, rfl, rfl, trivial⟩ (fun _ s => Sat.by [3, 3, 3, 3] 4 0 (by kernel_rfl) s)
    refine TA.lem (γ := Value × Value × Nat) 2 #[true, true, true, false, true, false] (fun (vq5_1_3, vq5_2_3, bq5_4_1) => [(0, I a0), (1, h1), (4, .pointer (some ⟨b4, 0, none⟩)), (5, .pointer (some ⟨bq5_4_1, 0, none⟩)), (21, vq5_1_3), (22, vq5_2_3)]) (fun (vq5_1_3, vq5_2_3, bq5_4_1) => (OwnS 3 1 vq5_1_3 (yq5_1_1.map cI) :: OwnS 3 1 vq5_2_3 (yq5_2_1.map cI) :: Bx bq5_4_1 26 [.slice none 0 0, .slice none 0 0, .slice none 0 0] :: Bx b4 26 [.slice none 0 0, .slice none 0 0, .slice none 0 0] :: L)) ?_ fun hSq5_2 => ?_
    · rintro ⟨vq5_1_3, vq5_2_3, bq5_4_1⟩
      refine TA.all1 (i := 3) (by kernel_rfl) ?_
      · refine TB.of rfl ?_
        refine TO.pure (fun _ s => Rd.one (OwnS.rd (Ent.at 0 rfl)) s) fun ocq5_3_1 => ?_
        refine TO.pure (fun _ s => Rd.one (OwnS.rd (Ent.at 1 rfl)) s) fun ocq5_3_2 => ?_
        refine TO.s rfl rfl rfl (StepS.buildS (us := [(1, .agg #[vq5_1_3]), (2, .agg #[vq5_2_3])]) (cs := [.slice none 0 0, vq5_1_3, vq5_2_3]) rfl (by simp only [List.map_cons, List.map_nil, ocq5_3_1.2, ocq5_3_2.2] <;> rfl) (by kernel_rfl)) ?_
        refine TA.back (.inr (fun _ s => Sat.by [3] 1 3 (by kernel_rfl) s)) ?_
        exact TA.jump hSq5_1 (vq5_1_3, vq5_2_3, bq5_4_1) rfl (by kernel_rfl) ⟨rfl, rfl, rfl, rfl, rfl, trivial⟩ (fun _ s => Sat.by [3, 3, 3, 3] 4 0 (by kernel_rfl) s)
    refine TA.lem (γ := Value × Value) 2 #[true, true, true, true, false, false] (fun (vq5_1_3, vq5_2_3) => [(0, I a0), (1, h1), (4, .pointer (some ⟨b4, 0, none⟩)), (23, .agg #[.slice none 0 0, vq5_1_3, vq5_2_3])]) (fun (vq5_1_3, vq5_2_3) => (OwnS 3 1 vq5_1_3 (yq5_1_1.map cI) :: OwnS 3 1 vq5_2_3 (yq5_2_1.map cI) :: Bx b4 26 [.slice none 0 0, .slice none 0 0, .slice none 0 0] :: L)) ?_ fun hSq5_3 => ?_
    · rintro ⟨vq5_1_3, vq5_2_3⟩
      refine TA.all1 (i := 4) (by kernel_rfl) ?_
      · refine TB.of rfl ?_
        refine TO.alloc kinfo_26_bind_zero_some_agg_slice_none_0_0_slice_none_0_0_slice_none_0_0 rfl rfl fun bq5_4_1 => ?_
        refine TA.back (.inr (fun _ s => Sat.by [3] 1 3 (by kernel_rfl) s)) ?_
        refine TA.asL (L' := (Bx bq5_4_1 26 [.slice none 0 0, .slice none 0 0, .slice none 0 0] :: OwnS 3 1 vq5_1_3 (yq5_1_1.map cI) :: OwnS 3 1 vq5_2_3 (yq5_2_1.map cI) :: Bx b4 26 [.slice none 0 0, .slice none 0 0, .slice none 0 0] :: L)) (listed' := #[true, true, true, true, true, false]) (by kernel_rfl) (by kernel_rfl) ?_
        exact TA.jump hSq5_1 (vq5_1_3, vq5_2_3, bq5_4_1) rfl (by kernel_rfl) ⟨rfl, rfl, rfl, rfl, rfl, trivial⟩ (fun _ s => Sat.by [3, 1, 3, 3] 4 0 (by kernel_rfl) s)
    refine TA.lem (γ := Value × Nat) 3 #[true, true, false, false, true, false] (fun (vq5_1_3, bq5_4_1) => [(0, I a0), (1, h1), (4, .pointer (some ⟨b4, 0, none⟩)), (5, .pointer (some ⟨bq5_4_1, 0, none⟩)), (21, vq5_1_3)]) (fun (vq5_1_3, bq5_4_1) => (OwnS 3 1 vq5_1_3 (yq5_1_1.map cI) :: Bx bq5_4_1 26 [.slice none 0 0, .slice none 0 0, .slice none 0 0] :: Bx b4 26 [.slice none 0 0, .slice none 0 0, .slice none 0 0] :: L)) ?_ fun hSq5_4 => ?_
    · rintro ⟨vq5_1_3, bq5_4_1⟩
      refine TA.all1 (i := 2) (by kernel_rfl) ?_
      · refine TB.of rfl ?_
        refine TO.mkS (f := cI) (za := 0) kelemB_24_3_1_8_true kinfo_3_bind_zero_some_I_0 rfl (by decide) rfl rfl hkq5_2_2 rfl fun vq5_2_3 => ?_
        refine TA.back (.inr (fun _ s => Sat.by [3] 1 3 (by kernel_rfl) s)) ?_
        refine TA.asL (L' := (OwnS 3 1 vq5_2_3 (yq5_2_1.map cI) :: OwnS 3 1 vq5_1_3 (yq5_1_1.map cI) :: Bx bq5_4_1 26 [.slice none 0 0, .slice none 0 0, .slice none 0 0] :: Bx b4 26 [.slice none 0 0, .slice none 0 0, .slice none 0 0] :: L)) (listed' := #[true, true, true, false, true, false]) (by kernel_rfl) (by kernel_rfl) ?_
        exact TA.jump hSq5_2 (vq5_1_3, vq5_2_3, bq5_4_1) rfl (by kernel_rfl) ⟨rfl, rfl, rfl, rfl, rfl, rfl, trivial⟩ (fun _ s => Sat.by [3, 3, 2, 3] 4 0 (by kernel_rfl) s)
    refine TA.lem (γ := Value × Nat) 3 #[true, false, true, false, true, false] (fun (vq5_2_3, bq5_4_1) => [(0, I a0), (1, h1), (4, .pointer (some ⟨b4, 0, none⟩)), (5, .pointer (some ⟨bq5_4_1, 0, none⟩)), (20, I a0), (22, vq5_2_3)]) (fun (vq5_2_3, bq5_4_1) => (OwnS 3 1 vq5_2_3 (yq5_2_1.map cI) :: Bx bq5_4_1 26 [.slice none 0 0, .slice none 0 0, .slice none 0 0] :: Bx b4 26 [.slice none 0 0, .slice none 0 0, .slice none 0 0] :: L)) ?_ fun hSq5_5 => ?_
    · rintro ⟨vq5_2_3, bq5_4_1⟩
      refine TA.all1 (i := 1) (by kernel_rfl) ?_
      · refine TB.of rfl ?_
        refine TO.mkS (f := cI) (za := 0) kelemB_24_3_1_8_true kinfo_3_bind_zero_some_I_0 rfl (by decide) rfl rfl hkq5_1_2 rfl fun vq5_1_3 => ?_
        refine TA.back (.inr (fun _ s => Sat.by [3] 1 3 (by kernel_rfl) s)) ?_
        refine TA.asL (L' := (OwnS 3 1 vq5_1_3 (yq5_1_1.map cI) :: OwnS 3 1 vq5_2_3 (yq5_2_1.map cI) :: Bx bq5_4_1 26 [.slice none 0 0, .slice none 0 0, .slice none 0 0] :: Bx b4 26 [.slice none 0 0, .slice none 0 0, .slice none 0 0] :: L)) (listed' := #[true, true, true, false, true, false]) (by kernel_rfl) (by kernel_rfl) ?_
        exact TA.jump hSq5_2 (vq5_1_3, vq5_2_3, bq5_4_1) rfl (by kernel_rfl) ⟨rfl, rfl, rfl, rfl, rfl, rfl, trivial⟩ (fun _ s => Sat.by [3, 3, 3, 3] 4 0 (by kernel_rfl) s)
    refine TA.lem (γ := Value × Value) 3 #[true, true, true, false, false, false] (fun (vq5_1_3, vq5_2_3) => [(0, I a0), (1, h1), (4, .pointer (some ⟨b4, 0, none⟩)), (21, vq5_1_3), (22, vq5_2_3)]) (fun (vq5_1_3, vq5_2_3) => (OwnS 3 1 vq5_1_3 (yq5_1_1.map cI) :: OwnS 3 1 vq5_2_3 (yq5_2_1.map cI) :: Bx b4 26 [.slice none 0 0, .slice none 0 0, .slice none 0 0] :: L)) ?_ fun hSq5_6 => ?_
    · rintro ⟨vq5_1_3, vq5_2_3⟩
      refine TA.all2 (i := 3) (j := 4) (by kernel_rfl) ?_ ?_
      · refine TB.of rfl ?_
        refine TO.pure (fun _ s => Rd.one (OwnS.rd (Ent.at 0 rfl)) s) fun ocq5_3_1 => ?_
        refine TO.pure (fun _ s => Rd.one (OwnS.rd (Ent.at 1 rfl)) s) fun ocq5_3_2 => ?_
        refine TO.s rfl rfl rfl (StepS.buildS (us := [(1, .agg #[vq5_1_3]), (2, .agg #[vq5_2_3])]) (cs := [.slice none 0 0, vq5_1_3, vq5_2_3]) rfl (by simp only [List.map_cons, List.map_nil, ocq5_3_1.2, ocq5_3_2.2] <;> rfl) (by kernel_rfl)) ?_
        refine TA.back (.inr (fun _ s => Sat.by [2] 1 2 (by kernel_rfl) s)) ?_
        exact TA.jump hSq5_3 (vq5_1_3, vq5_2_3) rfl (by kernel_rfl) ⟨rfl, rfl, rfl, rfl, trivial⟩ (fun _ s => Sat.by [2, 2, 2] 3 0 (by kernel_rfl) s)
      · refine TB.of rfl ?_
        refine TO.alloc kinfo_26_bind_zero_some_agg_slice_none_0_0_slice_none_0_0_slice_none_0_0 rfl rfl fun bq5_4_1 => ?_
        refine TA.back (.inr (fun _ s => Sat.by [3] 1 3 (by kernel_rfl) s)) ?_
        refine TA.asL (L' := (Bx bq5_4_1 26 [.slice none 0 0, .slice none 0 0, .slice none 0 0] :: OwnS 3 1 vq5_1_3 (yq5_1_1.map cI) :: OwnS 3 1 vq5_2_3 (yq5_2_1.map cI) :: Bx b4 26 [.slice none 0 0, .slice none 0 0, .slice none 0 0] :: L)) (listed' := #[true, true, true, false, true, false]) (by kernel_rfl) (by kernel_rfl) ?_
        exact TA.jump hSq5_2 (vq5_1_3, vq5_2_3, bq5_4_1) rfl (by kernel_rfl) ⟨rfl, rfl, rfl, rfl, rfl, rfl, trivial⟩ (fun _ s => Sat.by [3, 1, 3, 3] 4 0 (by kernel_rfl) s)
    refine TA.lem (γ := Value) 4 #[true, true, false, false, false, false] (fun vq5_1_3 => [(0, I a0), (1, h1), (4, .pointer (some ⟨b4, 0, none⟩)), (21, vq5_1_3)]) (fun vq5_1_3 => (OwnS 3 1 vq5_1_3 (yq5_1_1.map cI) :: Bx b4 26 [.slice none 0 0, .slice none 0 0, .slice none 0 0] :: L)) ?_ fun hSq5_7 => ?_
    · intro vq5_1_3
      refine TA.all2 (i := 2) (j := 4) (by kernel_rfl) ?_ ?_
      · refine TB.of rfl ?_
        refine TO.mkS (f := cI) (za := 0) kelemB_24_3_1_8_true kinfo_3_bind_zero_some_I_0 rfl (by decide) rfl rfl hkq5_2_2 rfl fun vq5_2_3 => ?_
        refine TA.back (.inr (fun _ s => Sat.by [2] 1 2 (by kernel_rfl) s)) ?_
        refine TA.asL (L' := (OwnS 3 1 vq5_2_3 (yq5_2_1.map cI) :: OwnS 3 1 vq5_1_3 (yq5_1_1.map cI) :: Bx b4 26 [.slice none 0 0, .slice none 0 0, .slice none 0 0] :: L)) (listed' := #[true, true, true, false, false, false]) (by kernel_rfl) (by kernel_rfl) ?_
        exact TA.jump hSq5_6 (vq5_1_3, vq5_2_3) rfl (by kernel_rfl) ⟨rfl, rfl, rfl, rfl, rfl, trivial⟩ (fun _ s => Sat.by [2, 1, 2] 3 0 (by kernel_rfl) s)
      · refine TB.of rfl ?_
        refine TO.alloc kinfo_26_bind_zero_some_agg_slice_none_0_0_slice_none_0_0_slice_none_0_0 rfl rfl fun bq5_4_1 => ?_
        refine TA.back (.inr (fun _ s => Sat.by [2] 1 2 (by kernel_rfl) s)) ?_
        refine TA.asL (L' := (Bx bq5_4_1 26 [.slice none 0 0, .slice none 0 0, .slice none 0 0] :: OwnS 3 1 vq5_1_3 (yq5_1_1.map cI) :: Bx b4 26 [.slice none 0 0, .slice none 0 0, .slice none 0 0] :: L)) (listed' := #[true, true, false, false, true, false]) (by kernel_rfl) (by kernel_rfl) ?_
        exact TA.jump hSq5_4 (vq5_1_3, bq5_4_1) rfl (by kernel_rfl) ⟨rfl, rfl, rfl, rfl, rfl, trivial⟩ (fun _ s => Sat.by [2, 1, 2] 3 0 (by kernel_rfl) s)
    refine TA.lem (γ := Value) 4 #[true, false, true, false, false, false] (fun vq5_2_3 => [(0, I a0), (1, h1), (4, .pointer (some ⟨b4, 0, none⟩)), (20, I a0), (22, vq5_2_3)]) (fun vq5_2_3 => (OwnS 3 1 vq5_2_3 (yq5_2_1.map cI) :: Bx b4 26 [.slice none 0 0, .slice none 0 0, .slice none 0 0] :: L)) ?_ fun hSq5_8 => ?_
    · intro vq5_2_3
      refine TA.all2 (i := 1) (j := 4) (by kernel_rfl) ?_ ?_
      · refine TB.of rfl ?_
        refine TO.mkS (f := cI) (za := 0) kelemB_24_3_1_8_true kinfo_3_bind_zero_some_I_0 rfl (by decide) rfl rfl hkq5_1_2 rfl fun vq5_1_3 => ?_
        refine TA.back (.inr (fun _ s => Sat.by [2] 1 2 (by kernel_rfl) s)) ?_
        refine TA.asL (L' := (OwnS 3 1 vq5_1_3 (yq5_1_1.map cI) :: OwnS 3 1 vq5_2_3 (yq5_2_1.map cI) :: Bx b4 26 [.slice none 0 0, .slice none 0 0, .slice none 0 0] :: L)) (listed' := #[true, true, true, false, false, false]) (by kernel_rfl) (by kernel_rfl) ?_
        exact TA.jump hSq5_6 (vq5_1_3, vq5_2_3) rfl (by kernel_rfl) ⟨rfl, rfl, rfl, rfl, rfl, trivial⟩ (fun _ s => Sat.by [2, 2, 2] 3 0 (by kernel_rfl) s)
      · refine TB.of rfl ?_
        refine TO.alloc kinfo_26_bind_zero_some_agg_slice_none_0_0_slice_none_0_0_slice_none_0_0 rfl rfl fun bq5_4_1 => ?_
        refine TA.back (.inr (fun _ s => Sat.by [2] 1 2 (by kernel_rfl) s)) ?_
        refine TA.asL (L' := (Bx bq5_4_1 26 [.slice none 0 0, .slice none 0 0, .slice none 0 0] :: OwnS 3 1 vq5_2_3 (yq5_2_1.map cI) :: Bx b4 26 [.slice none 0 0, .slice none 0 0, .slice none 0 0] :: L)) (listed' := #[true, false, true, false, true, false]) (by kernel_rfl) (by kernel_rfl) ?_
        exact TA.jump hSq5_5 (vq5_2_3, bq5_4_1) rfl (by kernel_rfl) ⟨rfl, rfl, rfl, rfl, rfl, rfl, trivial⟩ (fun _ s => Sat.by [2, 1, 2] 3 0 (by kernel_rfl) s)
    refine TA.lem (γ := Nat) 4 #[true, false, false, false, true, false] (fun bq5_4_1 => [(0, I a0), (1, h1), (4, .pointer (some ⟨b4, 0, none⟩)), (5, .pointer (some ⟨bq5_4_1, 0, none⟩)), (20, I a0)]) (fun bq5_4_1 => (Bx bq5_4_1 26 [.slice none 0 0, .slice none 0 0, .slice none 0 0] :: Bx b4 26 [.slice none 0 0, .slice none 0 0, .slice none 0 0] :: L)) ?_ fun hSq5_9 => ?_
    · intro bq5_4_1
      refine TA.all2 (i := 1) (j := 2) (by kernel_rfl) ?_ ?_
      · refine TB.of rfl ?_
        refine TO.mkS (f := cI) (za := 0) kelemB_24_3_1_8_true kinfo_3_bind_zero_some_I_0 rfl (by decide) rfl rfl hkq5_1_2 rfl fun vq5_1_3 => ?_
        refine TA.back (.inr (fun _ s => Sat.by [2] 1 2 (by kernel_rfl) s)) ?_
        refine TA.asL (L' := (OwnS 3 1 vq5_1_3 (yq5_1_1.map cI) :: Bx bq5_4_1 26 [.slice none 0 0, .slice none 0 0, .slice none 0 0] :: Bx b4 26 [.slice none 0 0, .slice none 0 0, .slice none 0 0] :: L)) (listed' := #[true, true, false, false, true, false]) (by kernel_rfl) (by kernel_rfl) ?_
        exact TA.jump hSq5_4 (vq5_1_3, bq5_4_1) rfl (by kernel_rfl) ⟨rfl, rfl, rfl, rfl, rfl, trivial⟩ (fun _ s => Sat.by [2, 2, 2] 3 0 (by kernel_rfl) s)
      · refine TB.of rfl ?_
        refine TO.mkS (f := cI) (za := 0) kelemB_24_3_1_8_true kinfo_3_bind_zero_some_I_0 rfl (by decide) rfl rfl hkq5_2_2 rfl fun vq5_2_3 => ?_
        refine TA.back (.inr (fun _ s => Sat.by [2] 1 2 (by kernel_rfl) s)) ?_
        refine TA.asL (L' := (OwnS 3 1 vq5_2_3 (yq5_2_1.map cI) :: Bx bq5_4_1 26 [.slice none 0 0, .slice none 0 0, .slice none 0 0] :: Bx b4 26 [.slice none 0 0, .slice none 0 0, .slice none 0 0] :: L)) (listed' := #[true, false, true, false, true, false]) (by kernel_rfl) (by kernel_rfl) ?_
        exact TA.jump hSq5_5 (vq5_2_3, bq5_4_1) rfl (by kernel_rfl) ⟨rfl, rfl, rfl, rfl, rfl, rfl, trivial⟩ (fun _ s => Sat.by [2, 2, 2] 3 0 (by kernel_rfl) s)
    refine TA.all3 (i := 1) (j := 2) (k := 4) (by kernel_rfl) ?_ ?_ ?_
    · refine TB.of rfl ?_
      refine TO.mkS (f := cI) (za := 0) kelemB_24_3_1_8_true kinfo_3_bind_zero_some_I_0 rfl (by decide) rfl rfl hkq5_1_2 rfl fun vq5_1_3 => ?_
      refine TA.back (.inr (fun _ s => Sat.by [1] 1 1 (by kernel_rfl) s)) ?_
      refine TA.asL (L' := (OwnS 3 1 vq5_1_3 (yq5_1_1.map cI) :: Bx b4 26 [.slice none 0 0, .slice none 0 0, .slice none 0 0] :: L)) (listed' := #[true, true, false, false, false, false]) (by kernel_rfl) (by kernel_rfl) ?_
      exact TA.jump hSq5_7 vq5_1_3 rfl (by kernel_rfl) ⟨rfl, rfl, rfl, rfl, trivial⟩ (fun _ s => Sat.by [1, 1] 2 0 (by kernel_rfl) s)
    · refine TB.of rfl ?_
      refine TO.mkS (f := cI) (za := 0) kelemB_24_3_1_8_true kinfo_3_bind_zero_some_I_0 rfl (by decide) rfl rfl hkq5_2_2 rfl fun vq5_2_3 => ?_
      refine TA.back (.inr (fun _ s => Sat.by [1] 1 1 (by kernel_rfl) s)) ?_
      refine TA.asL (L' := (OwnS 3 1 vq5_2_3 (yq5_2_1.map cI) :: Bx b4 26 [.slice none 0 0, .slice none 0 0, .slice none 0 0] :: L)) (listed' := #[true, false, true, false, false, false]) (by kernel_rfl) (by kernel_rfl) ?_
      exact TA.jump hSq5_8 vq5_2_3 rfl (by kernel_rfl) ⟨rfl, rfl, rfl, rfl, rfl, trivial⟩ (fun _ s => Sat.by [1, 1] 2 0 (by kernel_rfl) s)
    · refine TB.of rfl ?_
      refine TO.alloc kinfo_26_bind_zero_some_agg_slice_none_0_0_slice_none_0_0_slice_none_0_0 rfl rfl fun bq5_4_1 => ?_
      refine TA.back (.inr (fun _ s => Sat.by [1] 1 1 (by kernel_rfl) s)) ?_
      refine TA.asL (L' := (Bx bq5_4_1 26 [.slice none 0 0, .slice none 0 0, .slice none 0 0] :: Bx b4 26 [.slice none 0 0, .slice none 0 0, .slice none 0 0] :: L)) (listed' := #[true, false, false, false, true, false]) (by kernel_rfl) (by kernel_rfl) ?_
      exact TA.jump hSq5_9 bq5_4_1 rfl (by kernel_rfl) ⟨rfl, rfl, rfl, rfl, rfl, trivial⟩ (fun _ s => Sat.by [1, 1] 2 0 (by kernel_rfl) s)
  · intro a w ⟨v6, v9, bq5_4_1, he, hs⟩
    refine TC.use ?_ he hs
    refine TC.k ?_
    refine TC.region ?_
    obtain ⟨y13, hk14, hm⟩ := bind_some hm
    refine TO.mkS (f := cI) (za := 0) kelemB_24_3_1_8_true kinfo_3_bind_zero_some_I_0 rfl (by decide) rfl rfl hk14 rfl fun v15 => ?_
    refine TO.s rfl rfl rfl (StepS.assign rfl) ?_
    refine TO.code ?_
    refine TC.k ?_
    refine TC.region ?_
    refine TO.s rfl rfl rfl (StepS.assign rfl) ?_
    refine TO.code ?_
    refine TC.k ?_
    refine TC.k ?_
    refine TC.region ?_
    refine TO.s rfl rfl rfl (StepS.move rfl) ?_
    refine TO.s rfl rfl rfl (StepS.lenm rfl e1.tl.tl.tl.tl.tl ksliceB_22_47_7_true rfl) ?_
    refine TO.s rfl rfl rfl (StepS.move rfl) ?_
    refine TO.code ?_
    obtain ⟨o46, hw47, hm⟩ := bind_some hm
    refine TC.loop hw47 (fun (y19, y23, y24, y25, y26, x27) => fun a w => ∃ v17 : Value, ∃ v20 : Value, ∃ hs21 : List (List Value), Mid 215 B [(0, I a0), (4, .pointer (some ⟨b4, 0, none⟩)), (5, .pointer (some ⟨bq5_4_1, 0, none⟩)), (6, v15), (7, v17), (25, h1), (26, I (a1.length : Int)), (27, I x27)] (OwnS 45 4 v17 (y19.map cTissi) :: SN 41 4 nT41 v20 hs21 (y23) :: OwnS 3 1 v15 (y24.map cI) :: OwnS 3 1 v6 (y25.map cI) :: OwnS 3 1 v9 (y26.map cI) :: Bx bq5_4_1 26 [v20, v6, v9] :: Bx b4 26 [.slice none 0 0, .slice none 0 0, .slice none 0 0] :: L) a w) (fun (y42, y43, y44, y45) => fun a w => ∃ v39 : Value, ∃ hs40 : List (List Value), Mid 215 B [(4, .pointer (some ⟨b4, 0, none⟩)), (5, .pointer (some ⟨bq5_4_1, 0, none⟩))] (SN 41 4 nT41 v39 hs40 (y42) :: OwnS 3 1 v15 (y43.map cI) :: OwnS 3 1 v6 (y44.map cI) :: OwnS 3 1 v9 (y45.map cI) :: Bx bq5_4_1 26 [v39, v6, v9] :: Bx b4 26 [.slice none 0 0, .slice none 0 0, .slice none 0 0] :: L) a w) (fun (_ : Unit) _ _ => False) ?_ ?_ ?_ ?_
    · rintro ⟨y19, y23, y24, y25, y26, x27⟩ o46r hb48 a w ⟨v17, v20, hs21, he, hs⟩
      dsimp only [F25_L0] at hb48
      refine TC.use ?_ he hs
      refine TC.k ?_
      refine TC.region ?_
      refine TO.s rfl rfl rfl (StepS.cmp rfl rfl rfl) ?_
      refine TO.code ?_
      refine TC.k ?_
      refine TC.cond rfl (fun hc49 => ?_) (fun hc49 => ?_)
      · replace hb48 := cond_t hc49 hb48
        refine TC.skipk ?_
        refine TC.k ?_
        refine TC.block ?_
        refine TC.k ?_
        refine TC.region ?_
        obtain ⟨x50, hx51, hb48⟩ := bind_some hb48
        refine TO.s rfl rfl rfl (StepS.idx rfl rfl e1.tl.tl.tl.tl.tl.tl.tl ksliceB_22_47_7_true (idx_spec hx51).1 (idxm_lt hx51)) ?_
        refine TO.s rfl rfl rfl (StepS.ldE rfl e1.tl.tl.tl.tl.tl.tl.tl kaggB_47_7_true rfl (idxm hx51)) ?_
        refine TO.alloc kinfo_47_bind_zero_some_agg_I_0_I_0_I_0_I_0_string_ByteArray_empty_string_ByteArray_empty_I_0 rfl rfl fun b52 => ?_
        refine TO.stB (us := [I x50.1, I x50.2.1, I x50.2.2.1, I x50.2.2.2.1, .string x50.2.2.2.2.1, .string x50.2.2.2.2.2.1, I x50.2.2.2.2.2.2]) 0 [I x50.1, I x50.2.1, I x50.2.2.1, I x50.2.2.2.1, .string x50.2.2.2.2.1, .string x50.2.2.2.2.2.1, I x50.2.2.2.2.2.2] rfl rfl rfl ksizeB_47_7_true rfl rfl rfl (by simp [Value.oneCell']) rfl ?_
        refine TO.code ?_
        refine TC.k ?_
        refine TC.region ?_
        refine TO.s rfl rfl rfl (StepS.build (cs := [I 0, .string ByteArray.empty, I 0, .slice none 0 0]) rfl (by kernel_rfl)) ?_
        refine TO.alloc kinfo_41_bind_zero_some_agg_I_0_string_ByteArray_empty_I_0_slice_none_0_0 rfl rfl fun b53 => ?_
        refine TO.stB (us := [I 0, .string ByteArray.empty, I 0, .slice none 0 0]) 0 [I 0, .string ByteArray.empty, I 0, .slice none 0 0] rfl rfl rfl ksizeB_41_4_true rfl rfl rfl (by simp [Value.oneCell']) rfl ?_
        refine TO.code ?_
        refine TC.k ?_
        refine TC.region ?_
        refine TO.s rfl rfl rfl (StepS.fld rfl kfieldB_47_1_1_true) ?_
        refine TO.s rfl rfl rfl (StepS.ldB rfl (Ent.at 1 rfl) kscalB_3_true rfl) ?_
        refine TO.s rfl rfl rfl (StepS.assign rfl) ?_
        refine TO.code ?_
        refine TC.k ?_
        refine TC.region ?_
        refine TO.s rfl rfl rfl (StepS.fld rfl kfieldB_47_2_2_true) ?_
        refine TO.s rfl rfl rfl (StepS.ldB rfl (Ent.at 1 rfl) kscalB_3_true rfl) ?_
        refine TO.s rfl rfl rfl (StepS.assign rfl) ?_
        refine TO.code ?_
        refine TC.k ?_
        refine TC.region ?_
        refine TO.s rfl rfl rfl (StepS.move rfl) ?_
        refine TO.s rfl rfl rfl (StepS.cmp rfl rfl rfl) ?_
        refine TO.s rfl rfl rfl (StepS.move rfl) ?_
        refine TO.mid1 3 41 (.bool ((decide (x50.2.1 ≥ 0)) && (decide (x50.2.1 < 6)))) ?_ ?_
        · refine bcase ((decide (x50.2.1 ≥ 0))) (fun hb54 => ?_) (fun hb54 => ?_)
          · refine TO.sw rfl rfl rfl hb54 rfl rfl (StepS.move rfl) ?_
            refine TO.sw rfl rfl rfl hb54 rfl rfl (StepS.cmp rfl rfl rfl) ?_
            refine TO.s rfl rfl rfl (StepS.pickT rfl hb54 rfl) ?_
            exact TO.up1 3 0 rfl rfl (by rw [hb54]; rfl) rfl
          · refine TO.skip rfl rfl rfl (skipF hb54) rfl rfl ?_
            refine TO.skip rfl rfl rfl (skipF hb54) rfl rfl ?_
            refine TO.s rfl rfl rfl (StepS.pickF rfl hb54 rfl) ?_
            exact TO.up1 3 0 rfl rfl (by rw [hb54]; rfl) rfl
        refine TO.s rfl rfl rfl (StepS.assign rfl) ?_
        refine TO.code ?_
        refine TC.k ?_
        refine TC.region ?_
        refine TO.s rfl rfl rfl (StepS.move rfl) ?_
        refine TO.s rfl rfl rfl (StepS.cmp rfl rfl rfl) ?_
        refine TO.s rfl rfl rfl (StepS.move rfl) ?_
        refine TO.mid1 4 48 (.bool ((decide (x50.2.2.1 ≥ 0)) && (decide (x50.2.2.1 < a0)))) ?_ ?_
        · refine bcase ((decide (x50.2.2.1 ≥ 0))) (fun hb55 => ?_) (fun hb55 => ?_)
          · refine TO.sw rfl rfl rfl hb55 rfl rfl (StepS.move rfl) ?_
            refine TO.sw rfl rfl rfl hb55 rfl rfl (StepS.move rfl) ?_
            refine TO.sw rfl rfl rfl hb55 rfl rfl (StepS.cmp rfl rfl rfl) ?_
            refine TO.s rfl rfl rfl (StepS.pickT rfl hb55 rfl) ?_
            exact TO.up1 4 0 rfl rfl (by rw [hb55]; rfl) rfl
          · refine TO.skip rfl rfl rfl (skipF hb55) rfl rfl ?_
            refine TO.skip rfl rfl rfl (skipF hb55) rfl rfl ?_
            refine TO.skip rfl rfl rfl (skipF hb55) rfl rfl ?_
            refine TO.s rfl rfl rfl (StepS.pickF rfl hb55 rfl) ?_
            exact TO.up1 4 0 rfl rfl (by rw [hb55]; rfl) rfl
        refine TO.s rfl rfl rfl (StepS.assign rfl) ?_
        refine TO.code ?_
        refine TC.k ?_
        refine TC.k ?_
        refine TC.region ?_
        refine TO.s rfl rfl rfl (StepS.fld rfl kfieldB_47_0_0_true) ?_
        refine TO.s rfl rfl rfl (StepS.ldB rfl (Ent.at 1 rfl) kscalB_3_true rfl) ?_
        refine TO.s rfl rfl rfl (StepS.cmp rfl rfl rfl) ?_
        refine TO.s rfl rfl rfl (StepS.move rfl) ?_
        refine TO.mid1 4 56 (.bool ((decide (x50.1 < 1)) || (decide (x50.1 > 4)))) ?_ ?_
        · refine bcase ((decide (x50.1 < 1))) (fun hb56 => ?_) (fun hb56 => ?_)
          · refine TO.skip rfl rfl rfl (skipT hb56) rfl rfl ?_
            refine TO.skip rfl rfl rfl (skipT hb56) rfl rfl ?_
            refine TO.skip rfl rfl rfl (skipT hb56) rfl rfl ?_
            refine TO.s rfl rfl rfl (StepS.pickT rfl hb56 rfl) ?_
            exact TO.up1 4 0 rfl rfl (by rw [hb56]; rfl) rfl
          · refine TO.sw rfl rfl rfl hb56 rfl rfl (StepS.fld rfl kfieldB_47_0_0_true) ?_
            refine TO.sw rfl rfl rfl hb56 rfl rfl (StepS.ldB rfl (Ent.at 1 rfl) kscalB_3_true rfl) ?_
            refine TO.sw rfl rfl rfl hb56 rfl rfl (StepS.cmp rfl rfl rfl) ?_
            refine TO.s rfl rfl rfl (StepS.pickF rfl hb56 rfl) ?_
            exact TO.up1 4 0 rfl rfl (by rw [hb56]; rfl) rfl
        refine TO.s rfl rfl rfl (StepS.move rfl) ?_
        refine TO.mid1 16 73 (.bool (((decide (x50.1 < 1)) || (decide (x50.1 > 4))) || ((x50.1 == 1) && ((decide (x50.2.2.2.1 < 1)) || (decide (x50.2.2.2.1 > 5)))))) ?_ ?_
        · refine bcase (((decide (x50.1 < 1)) || (decide (x50.1 > 4)))) (fun hb57 => ?_) (fun hb57 => ?_)
          · refine TO.skip rfl rfl rfl (skipT hb57) rfl rfl ?_
            refine TO.skip rfl rfl rfl (skipT hb57) rfl rfl ?_
            refine TO.skip rfl rfl rfl (skipT hb57) rfl rfl ?_
            refine TO.skip rfl rfl rfl (skipT hb57) rfl rfl ?_
            refine TO.skip rfl rfl rfl skipU rfl rfl ?_
            refine TO.skip rfl rfl rfl skipU rfl rfl ?_
            refine TO.skip rfl rfl rfl skipU rfl rfl ?_
            refine TO.skip rfl rfl rfl skipU rfl rfl ?_
            refine TO.skip rfl rfl rfl skipU rfl rfl ?_
            refine TO.skip rfl rfl rfl skipU rfl rfl ?_
            refine TO.skip rfl rfl rfl skipU rfl rfl ?_
            refine TO.skip rfl rfl rfl skipU rfl rfl ?_
            refine TO.skip rfl rfl rfl skipU rfl rfl ?_
            refine TO.skip rfl rfl rfl skipU rfl rfl ?_
            refine TO.skip rfl rfl rfl (skipT hb57) rfl rfl ?_
            refine TO.s rfl rfl rfl (StepS.pickT rfl hb57 rfl) ?_
            exact TO.up1 16 0 rfl rfl (by rw [hb57]; rfl) rfl
          · refine TO.sw rfl rfl rfl hb57 rfl rfl (StepS.fld rfl kfieldB_47_0_0_true) ?_
            refine TO.sw rfl rfl rfl hb57 rfl rfl (StepS.ldB rfl (Ent.at 1 rfl) kscalB_3_true rfl) ?_
            refine TO.sw rfl rfl rfl hb57 rfl rfl (StepS.cmp rfl rfl rfl) ?_
            refine TO.sw rfl rfl rfl hb57 rfl rfl (StepS.move rfl) ?_
            refine TO.mid1 11 72 (.bool ((x50.1 == 1) && ((decide (x50.2.2.2.1 < 1)) || (decide (x50.2.2.2.1 > 5))))) ?_ ?_
            · refine bcase ((x50.1 == 1)) (fun hb58 => ?_) (fun hb58 => ?_)
              · refine TO.sw rfl rfl rfl hb58 rfl rfl (StepS.fld rfl kfieldB_47_3_3_true) ?_
                refine TO.sw rfl rfl rfl hb58 rfl rfl (StepS.fld rfl kfieldB_45_0_0_true) ?_
                refine TO.sw rfl rfl rfl hb58 rfl rfl (StepS.ldB rfl (Ent.at 1 rfl) kscalB_3_true rfl) ?_
                refine TO.sw rfl rfl rfl hb58 rfl rfl (StepS.cmp rfl rfl rfl) ?_
                refine TO.sw rfl rfl rfl hb58 rfl rfl (StepS.move rfl) ?_
                refine TO.mid1 5 71 (.bool ((decide (x50.2.2.2.1 < 1)) || (decide (x50.2.2.2.1 > 5)))) ?_ ?_
                · refine bcase ((decide (x50.2.2.2.1 < 1))) (fun hb59 => ?_) (fun hb59 => ?_)
                  · refine TO.skip rfl rfl rfl (skipT hb59) rfl rfl ?_
                    refine TO.skip rfl rfl rfl (skipT hb59) rfl rfl ?_
                    refine TO.skip rfl rfl rfl (skipT hb59) rfl rfl ?_
                    refine TO.skip rfl rfl rfl (skipT hb59) rfl rfl ?_
                    refine TO.sw rfl rfl rfl hb58 rfl rfl (StepS.pickT rfl hb59 rfl) ?_
                    exact TO.up1 5 0 rfl rfl (by rw [hb59]; rfl) rfl
                  · refine TO.sw rfl rfl rfl hb59 rfl rfl (StepS.fld rfl kfieldB_47_3_3_true) ?_
                    refine TO.sw rfl rfl rfl hb59 rfl rfl (StepS.fld rfl kfieldB_45_0_0_true) ?_
                    refine TO.sw rfl rfl rfl hb59 rfl rfl (StepS.ldB rfl (Ent.at 1 rfl) kscalB_3_true rfl) ?_
                    refine TO.sw rfl rfl rfl hb59 rfl rfl (StepS.cmp rfl rfl rfl) ?_
                    refine TO.sw rfl rfl rfl hb58 rfl rfl (StepS.pickF rfl hb59 rfl) ?_
                    exact TO.up1 5 0 rfl rfl (by rw [hb59]; rfl) rfl
                refine TO.sw rfl rfl rfl hb57 rfl rfl (StepS.pickT rfl hb58 rfl) ?_
                exact TO.up1 7 0 rfl rfl (by rw [hb58]; rfl) rfl
              · refine TO.skip rfl rfl rfl (skipF hb58) rfl rfl ?_
                refine TO.skip rfl rfl rfl (skipF hb58) rfl rfl ?_
                refine TO.skip rfl rfl rfl (skipF hb58) rfl rfl ?_
                refine TO.skip rfl rfl rfl (skipF hb58) rfl rfl ?_
                refine TO.skip rfl rfl rfl (skipF hb58) rfl rfl ?_
                refine TO.skip rfl rfl rfl skipU rfl rfl ?_
                refine TO.skip rfl rfl rfl skipU rfl rfl ?_
                refine TO.skip rfl rfl rfl skipU rfl rfl ?_
                refine TO.skip rfl rfl rfl skipU rfl rfl ?_
                refine TO.skip rfl rfl rfl (skipF hb58) rfl rfl ?_
                refine TO.sw rfl rfl rfl hb57 rfl rfl (StepS.pickF rfl hb58 rfl) ?_
                exact TO.up1 11 0 rfl rfl (by rw [hb58]; rfl) rfl
            refine TO.s rfl rfl rfl (StepS.pickF rfl hb57 rfl) ?_
            exact TO.up1 6 0 rfl rfl (by rw [hb57]; rfl) rfl
        refine TO.code ?_
        obtain ⟨⟨y62, y63, y65, y66, y67, x68, t69, x70⟩, hj71, hb48⟩ := bind_some hb48
        first | refine TC.cutM (fun a w => ∃ v60 : Value, ∃ v64 : Value, Mid 215 B [(0, I a0), (4, .pointer (some ⟨b4, 0, none⟩)), (5, .pointer (some ⟨bq5_4_1, 0, none⟩)), (6, v15), (7, v64), (10, .pointer (some ⟨b53, 0, none⟩)), (25, h1), (26, I (a1.length : Int)), (27, I x27)] (OwnS 9 1 v60 (y62.map cS) :: Bx b53 41 [I x68, .string t69, I x70, v60] :: Bx b52 47 [I x50.1, I x50.2.1, I x50.2.2.1, I x50.2.2.2.1, .string x50.2.2.2.2.1, .string x50.2.2.2.2.2.1, I x50.2.2.2.2.2.2] :: OwnS 45 4 v64 (y63.map cTissi) :: SN 41 4 nT41 v20 hs21 (y23) :: OwnS 3 1 v15 (y65.map cI) :: OwnS 3 1 v6 (y66.map cI) :: OwnS 3 1 v9 (y67.map cI) :: Bx bq5_4_1 26 [v20, v6, v9] :: Bx b4 26 [.slice none 0 0, .slice none 0 0, .slice none 0 0] :: L) a w) ?_ ?_ | refine TC.cutX (fun a w => ∃ v60 : Value, ∃ v64 : Value, Mid 215 B [(0, I a0), (4, .pointer (some ⟨b4, 0, none⟩)), (5, .pointer (some ⟨bq5_4_1, 0, none⟩)), (6, v15), (7, v64), (10, .pointer (some ⟨b53, 0, none⟩)), (25, h1), (26, I (a1.length : Int)), (27, I x27)] (OwnS 9 1 v60 (y62.map cS) :: Bx b53 41 [I x68, .string t69, I x70, v60] :: Bx b52 47 [I x50.1, I x50.2.1, I x50.2.2.1, I x50.2.2.2.1, .string x50.2.2.2.2.1, .string x50.2.2.2.2.2.1, I x50.2.2.2.2.2.2] :: OwnS 45 4 v64 (y63.map cTissi) :: SN 41 4 nT41 v20 hs21 (y23) :: OwnS 3 1 v15 (y65.map cI) :: OwnS 3 1 v6 (y66.map cI) :: OwnS 3 1 v9 (y67.map cI) :: Bx bq5_4_1 26 [v20, v6, v9] :: Bx b4 26 [.slice none 0 0, .slice none 0 0, .slice none 0 0] :: L) a w) ?_ ?_
        · refine TC.cond rfl (fun hc72 => ?_) (fun hc72 => ?_)
          · replace hj71 := cond_t hc72 hj71
            refine TC.region ?_
            refine TO.s rfl rfl rfl (StepS.fld rfl kfieldB_41_0_0_true) ?_
            refine TO.stB (us := [I 6]) 0 [I 6, .string ByteArray.empty, I 0, .slice none 0 0] rfl rfl rfl ksizeB_27_1_true rfl rfl rfl (by simp [Value.oneCell']) rfl ?_
            cases hj71
            refine TO.nil fun a w e s => ?_
            exact ⟨.slice none 0 0, v17, e.sub (lk_of_allIn ⟨rfl, rfl, rfl, rfl, rfl, rfl, rfl, rfl, rfl, trivial⟩), s.mono fun _ s => (by replace s := Sat.nilS (e := 9) (sz := 1) (f := cS) s; exact Sat.by [9, 9, 9, 9, 9, 9, 9, 9, 9, 9] 10 0 (by kernel_rfl) s)⟩
          · replace hj71 := cond_f hc72 hj71
            refine TC.k ?_
            refine TC.region ?_
            refine TO.s rfl rfl rfl (StepS.fld rfl kfieldB_47_0_0_true) ?_
            refine TO.s rfl rfl rfl (StepS.ldB rfl (Ent.at 1 rfl) kscalB_3_true rfl) ?_
            refine TO.s rfl rfl rfl (StepS.cmp rfl rfl rfl) ?_
            refine TO.s rfl rfl rfl (StepS.move rfl) ?_
            refine TO.mid1 3 81 (.bool ((x50.1 != 2) && (!((decide (x50.2.1 ≥ 0)) && (decide (x50.2.1 < 6)))))) ?_ ?_
            · refine bcase ((x50.1 != 2)) (fun hb73 => ?_) (fun hb73 => ?_)
              · refine TO.sw rfl rfl rfl hb73 rfl rfl (StepS.move rfl) ?_
                refine TO.sw rfl rfl rfl hb73 rfl rfl (StepS.not rfl) ?_
                refine TO.s rfl rfl rfl (StepS.pickT rfl hb73 rfl) ?_
                exact TO.up1 3 0 rfl rfl (by rw [hb73]; rfl) rfl
              · refine TO.skip rfl rfl rfl (skipF hb73) rfl rfl ?_
                refine TO.skip rfl rfl rfl (skipF hb73) rfl rfl ?_
                refine TO.s rfl rfl rfl (StepS.pickF rfl hb73 rfl) ?_
                exact TO.up1 3 0 rfl rfl (by rw [hb73]; rfl) rfl
            refine TO.s rfl rfl rfl (StepS.move rfl) ?_
            refine TO.mid1 13 95 (.bool (((x50.1 != 2) && (!((decide (x50.2.1 ≥ 0)) && (decide (x50.2.1 < 6))))) || (((x50.1 == 2) || (x50.1 == 3)) && (!((decide (x50.2.2.1 ≥ 0)) && (decide (x50.2.2.1 < a0))))))) ?_ ?_
            · refine bcase (((x50.1 != 2) && (!((decide (x50.2.1 ≥ 0)) && (decide (x50.2.1 < 6)))))) (fun hb74 => ?_) (fun hb74 => ?_)
              · refine TO.skip rfl rfl rfl (skipT hb74) rfl rfl ?_
                refine TO.skip rfl rfl rfl (skipT hb74) rfl rfl ?_
                refine TO.skip rfl rfl rfl (skipT hb74) rfl rfl ?_
                refine TO.skip rfl rfl rfl (skipT hb74) rfl rfl ?_
                refine TO.skip rfl rfl rfl skipU rfl rfl ?_
                refine TO.skip rfl rfl rfl skipU rfl rfl ?_
                refine TO.skip rfl rfl rfl skipU rfl rfl ?_
                refine TO.skip rfl rfl rfl (skipT hb74) rfl rfl ?_
                refine TO.skip rfl rfl rfl (skipT hb74) rfl rfl ?_
                refine TO.skip rfl rfl rfl skipU rfl rfl ?_
                refine TO.skip rfl rfl rfl skipU rfl rfl ?_
                refine TO.skip rfl rfl rfl (skipT hb74) rfl rfl ?_
                refine TO.s rfl rfl rfl (StepS.pickT rfl hb74 rfl) ?_
                exact TO.up1 13 0 rfl rfl (by rw [hb74]; rfl) rfl
              · refine TO.sw rfl rfl rfl hb74 rfl rfl (StepS.fld rfl kfieldB_47_0_0_true) ?_
                refine TO.sw rfl rfl rfl hb74 rfl rfl (StepS.ldB rfl (Ent.at 1 rfl) kscalB_3_true rfl) ?_
                refine TO.sw rfl rfl rfl hb74 rfl rfl (StepS.cmp rfl rfl rfl) ?_
                refine TO.sw rfl rfl rfl hb74 rfl rfl (StepS.move rfl) ?_
                refine TO.mid1 4 90 (.bool ((x50.1 == 2) || (x50.1 == 3))) ?_ ?_
                · refine bcase ((x50.1 == 2)) (fun hb75 => ?_) (fun hb75 => ?_)
                  · refine TO.skip rfl rfl rfl (skipT hb75) rfl rfl ?_
                    refine TO.skip rfl rfl rfl (skipT hb75) rfl rfl ?_
                    refine TO.skip rfl rfl rfl (skipT hb75) rfl rfl ?_
                    refine TO.sw rfl rfl rfl hb74 rfl rfl (StepS.pickT rfl hb75 rfl) ?_
                    exact TO.up1 4 0 rfl rfl (by rw [hb75]; rfl) rfl
                  · refine TO.sw rfl rfl rfl hb75 rfl rfl (StepS.fld rfl kfieldB_47_0_0_true) ?_
                    refine TO.sw rfl rfl rfl hb75 rfl rfl (StepS.ldB rfl (Ent.at 1 rfl) kscalB_3_true rfl) ?_
                    refine TO.sw rfl rfl rfl hb75 rfl rfl (StepS.cmp rfl rfl rfl) ?_
                    refine TO.sw rfl rfl rfl hb74 rfl rfl (StepS.pickF rfl hb75 rfl) ?_
                    exact TO.up1 4 0 rfl rfl (by rw [hb75]; rfl) rfl
                refine TO.sw rfl rfl rfl hb74 rfl rfl (StepS.move rfl) ?_
                refine TO.mid1 3 94 (.bool (((x50.1 == 2) || (x50.1 == 3)) && (!((decide (x50.2.2.1 ≥ 0)) && (decide (x50.2.2.1 < a0)))))) ?_ ?_
                · refine bcase (((x50.1 == 2) || (x50.1 == 3))) (fun hb76 => ?_) (fun hb76 => ?_)
                  · refine TO.sw rfl rfl rfl hb76 rfl rfl (StepS.move rfl) ?_
                    refine TO.sw rfl rfl rfl hb76 rfl rfl (StepS.not rfl) ?_
                    refine TO.sw rfl rfl rfl hb74 rfl rfl (StepS.pickT rfl hb76 rfl) ?_
                    exact TO.up1 3 0 rfl rfl (by rw [hb76]; rfl) rfl
                  · refine TO.skip rfl rfl rfl (skipF hb76) rfl rfl ?_
                    refine TO.skip rfl rfl rfl (skipF hb76) rfl rfl ?_
                    refine TO.sw rfl rfl rfl hb74 rfl rfl (StepS.pickF rfl hb76 rfl) ?_
                    exact TO.up1 3 0 rfl rfl (by rw [hb76]; rfl) rfl
                refine TO.s rfl rfl rfl (StepS.pickF rfl hb74 rfl) ?_
                exact TO.up1 8 0 rfl rfl (by rw [hb74]; rfl) rfl
            refine TO.code ?_
            refine TC.cond rfl (fun hc77 => ?_) (fun hc77 => ?_)
            · replace hj71 := cond_t hc77 hj71
              refine TC.region ?_
              refine TO.s rfl rfl rfl (StepS.fld rfl kfieldB_41_0_0_true) ?_
              refine TO.stB (us := [I 2]) 0 [I 2, .string ByteArray.empty, I 0, .slice none 0 0] rfl rfl rfl ksizeB_27_1_true rfl rfl rfl (by simp [Value.oneCell']) rfl ?_
              cases hj71
              refine TO.nil fun a w e s => ?_
              exact ⟨.slice none 0 0, v17, e.sub (lk_of_allIn ⟨rfl, rfl, rfl, rfl, rfl, rfl, rfl, rfl, rfl, trivial⟩), s.mono fun _ s => (by replace s := Sat.nilS (e := 9) (sz := 1) (f := cS) s; exact Sat.by [9, 9, 9, 9, 9, 9, 9, 9, 9, 9] 10 0 (by kernel_rfl) s)⟩
            · replace hj71 := cond_f hc77 hj71
              refine TC.k ?_
              refine TC.region ?_
              refine TO.s rfl rfl rfl (StepS.fld rfl kfieldB_47_0_0_true) ?_
              refine TO.s rfl rfl rfl (StepS.ldB rfl (Ent.at 1 rfl) kscalB_3_true rfl) ?_
              refine TO.s rfl rfl rfl (StepS.cmp rfl rfl rfl) ?_
              refine TO.code ?_
              refine TC.cond rfl (fun hc78 => ?_) (fun hc78 => ?_)
              · replace hj71 := cond_t hc78 hj71
                refine TC.k ?_
                refine TC.region ?_
                refine TO.s rfl rfl rfl (StepS.fld rfl kfieldB_26_1_1_true) ?_
                refine TO.s rfl rfl rfl (StepS.ldB rfl (Ent.at 7 rfl) kscalB_24_true rfl) ?_
                refine TO.s rfl rfl rfl (StepS.move rfl) ?_
                obtain ⟨x79, hx80, hj71⟩ := bind_some hj71
                refine TO.s rfl rfl rfl (StepS.idx rfl rfl (OwnS.rd (Ent.at 5 rfl)) ksliceB_24_3_1_true (idx_spec hx80).1 (idxm_lt hx80)) ?_
                refine TO.s rfl rfl rfl (StepS.ld0 rfl (OwnS.rd (Ent.at 5 rfl)) kscalB_3_true rfl (idxm hx80) rfl) ?_
                refine TO.s rfl rfl rfl (StepS.move rfl) ?_
                refine TO.s rfl rfl rfl (StepS.lenm rfl (OwnS.rd (Ent.at 2 rfl)) ksliceB_34_45_4_true rfl) ?_
                refine TO.s rfl rfl rfl (StepS.cmp rfl rfl rfl) ?_
                refine TO.code ?_
                refine TC.cond rfl (fun hc81 => ?_) (fun hc81 => ?_)
                · replace hj71 := cond_t hc81 hj71
                  refine TC.region ?_
                  refine TO.s rfl rfl rfl (StepS.fld rfl kfieldB_41_0_0_true) ?_
                  refine TO.stB (us := [I 5]) 0 [I 5, .string ByteArray.empty, I 0, .slice none 0 0] rfl rfl rfl ksizeB_27_1_true rfl rfl rfl (by simp [Value.oneCell']) rfl ?_
                  cases hj71
                  refine TO.nil fun a w e s => ?_
                  exact ⟨.slice none 0 0, v17, e.sub (lk_of_allIn ⟨rfl, rfl, rfl, rfl, rfl, rfl, rfl, rfl, rfl, trivial⟩), s.mono fun _ s => (by replace s := Sat.nilS (e := 9) (sz := 1) (f := cS) s; exact Sat.by [9, 9, 9, 9, 9, 9, 9, 9, 9, 9] 10 0 (by kernel_rfl) s)⟩
                · replace hj71 := cond_f hc81 hj71
                  refine TC.region_tail 10 kfollows_mixedOrders_true (by kernel_rfl) ?_
                  refine TS.s rfl rfl rfl (StepS.fld rfl kfieldB_26_1_1_true) ?_
                  refine TS.s rfl rfl rfl (StepS.ldB rfl (Ent.at 7 rfl) kscalB_24_true rfl) ?_
                  refine TS.s rfl rfl rfl (StepS.move rfl) ?_
                  refine TS.s rfl rfl rfl (StepS.fld rfl kfieldB_26_1_1_true) ?_
                  refine TS.s rfl rfl rfl (StepS.ldB rfl (Ent.at 7 rfl) kscalB_24_true rfl) ?_
                  refine TS.s rfl rfl rfl (StepS.move rfl) ?_
                  obtain ⟨x82, hx83, hj71⟩ := bind_some hj71
                  refine TS.s rfl rfl rfl (StepS.idx rfl rfl (OwnS.rd (Ent.at 5 rfl)) ksliceB_24_3_1_true (idx_spec hx83).1 (idxm_lt hx83)) ?_
                  refine TS.s rfl rfl rfl (StepS.ld0 rfl (OwnS.rd (Ent.at 5 rfl)) kscalB_3_true rfl (idxm hx83) rfl) ?_
                  refine TS.s rfl rfl rfl (StepS.ari rfl rfl rfl) ?_
                  obtain ⟨x84, hx85, hj71⟩ := bind_some hj71
                  refine TS.s rfl rfl rfl (StepS.idx rfl rfl (OwnS.rd (Ent.at 5 rfl)) ksliceB_24_3_1_true (idx_spec hx85).1 (idxm_lt hx85)) ?_
                  refine TS.nil ?_
                  refine TO.at ?_
                  refine TO.stO (i := x50.2.2.1.toNat) (off := 0) (us := [I (w64 (x82 + 1))]) 5 (w64 (x82 + 1)) rfl rfl rfl ksizeB_3_1_true rfl rfl rfl (idx_spec hx85).2 rfl (by simp [Value.oneCell']) rfl ?_
                  cases hj71
                  refine TO.nil fun a w e s => ?_
                  exact ⟨.slice none 0 0, v17, e.sub (lk_of_allIn ⟨rfl, rfl, rfl, rfl, rfl, rfl, rfl, rfl, rfl, trivial⟩), s.mono fun _ s => (by replace s := Sat.nilS (e := 9) (sz := 1) (f := cS) s; exact Sat.by [9, 9, 9, 9, 9, 9, 9, 9, 9, 9] 10 0 (by kernel_rfl) s)⟩
              · replace hj71 := cond_f hc78 hj71
                refine TC.k ?_
                refine TC.region ?_
                refine TO.s rfl rfl rfl (StepS.fld rfl kfieldB_47_0_0_true) ?_
                refine TO.s rfl rfl rfl (StepS.ldB rfl (Ent.at 1 rfl) kscalB_3_true rfl) ?_
                refine TO.s rfl rfl rfl (StepS.cmp rfl rfl rfl) ?_
                refine TO.code ?_
                refine TC.cond rfl (fun hc86 => ?_) (fun hc86 => ?_)
                · replace hj71 := cond_t hc86 hj71
                  refine TC.k ?_
                  refine TC.region_still kfollows_mixedOrders_true (by kernel_rfl) ?_
                  refine TS.s rfl rfl rfl (StepS.fld rfl kfieldB_26_1_1_true) ?_
                  refine TS.s rfl rfl rfl (StepS.ldB rfl (Ent.at 7 rfl) kscalB_24_true rfl) ?_
                  refine TS.s rfl rfl rfl (StepS.move rfl) ?_
                  obtain ⟨x87, hx88, hj71⟩ := bind_some hj71
                  refine TS.s rfl rfl rfl (StepS.idx rfl rfl (OwnS.rd (Ent.at 5 rfl)) ksliceB_24_3_1_true (idx_spec hx88).1 (idxm_lt hx88)) ?_
                  refine TS.s rfl rfl rfl (StepS.ld0 rfl (OwnS.rd (Ent.at 5 rfl)) kscalB_3_true rfl (idxm hx88) rfl) ?_
                  refine TS.s rfl rfl rfl (StepS.fld rfl kfieldB_26_2_2_true) ?_
                  refine TS.s rfl rfl rfl (StepS.ldB rfl (Ent.at 7 rfl) kscalB_24_true rfl) ?_
                  refine TS.s rfl rfl rfl (StepS.move rfl) ?_
                  obtain ⟨x89, hx90, hj71⟩ := bind_some hj71
                  refine TS.s rfl rfl rfl (StepS.idx rfl rfl (OwnS.rd (Ent.at 6 rfl)) ksliceB_24_3_1_true (idx_spec hx90).1 (idxm_lt hx90)) ?_
                  refine TS.s rfl rfl rfl (StepS.ld0 rfl (OwnS.rd (Ent.at 6 rfl)) kscalB_3_true rfl (idxm hx90) rfl) ?_
                  refine TS.s rfl rfl rfl (StepS.cmp rfl rfl rfl) ?_
                  refine TS.code ?_
                  refine TC.cond rfl (fun hc91 => ?_) (fun hc91 => ?_)
                  · replace hj71 := cond_t hc91 hj71
                    refine TC.region ?_
                    refine TO.s rfl rfl rfl (StepS.fld rfl kfieldB_41_0_0_true) ?_
                    refine TO.stB (us := [I 8]) 0 [I 8, .string ByteArray.empty, I 0, .slice none 0 0] rfl rfl rfl ksizeB_27_1_true rfl rfl rfl (by simp [Value.oneCell']) rfl ?_
                    cases hj71
                    refine TO.nil fun a w e s => ?_
                    exact ⟨.slice none 0 0, v17, e.sub (lk_of_allIn ⟨rfl, rfl, rfl, rfl, rfl, rfl, rfl, rfl, rfl, trivial⟩), s.mono fun _ s => (by replace s := Sat.nilS (e := 9) (sz := 1) (f := cS) s; exact Sat.by [9, 9, 9, 9, 9, 9, 9, 9, 9, 9] 10 0 (by kernel_rfl) s)⟩
                  · replace hj71 := cond_f hc91 hj71
                    refine TC.region ?_
                    refine TO.s rfl rfl rfl (StepS.move rfl) ?_
                    refine TO.s rfl rfl rfl (StepS.move rfl) ?_
                    refine TO.s rfl rfl rfl (StepS.move rfl) ?_
                    obtain ⟨x92, hx93, hj71⟩ := bind_some hj71
                    refine TO.s rfl rfl rfl (StepS.idx rfl rfl (OwnS.rd (Ent.at 4 rfl)) ksliceB_24_3_1_true (idx_spec hx93).1 (idxm_lt hx93)) ?_
                    refine TO.stO (i := x50.2.1.toNat) (off := 0) (us := [I x50.2.2.1]) 4 x50.2.2.1 rfl rfl rfl ksizeB_3_1_true rfl rfl rfl (idx_spec hx93).2 rfl (by simp [Value.oneCell']) rfl ?_
                    cases hj71
                    refine TO.nil fun a w e s => ?_
                    exact ⟨.slice none 0 0, v17, e.sub (lk_of_allIn ⟨rfl, rfl, rfl, rfl, rfl, rfl, rfl, rfl, rfl, trivial⟩), s.mono fun _ s => (by replace s := Sat.nilS (e := 9) (sz := 1) (f := cS) s; exact Sat.by [9, 9, 9, 9, 9, 9, 9, 9, 9, 9] 10 0 (by kernel_rfl) s)⟩
                · replace hj71 := cond_f hc86 hj71
                  refine TC.k ?_
                  refine TC.region ?_
                  refine TO.s rfl rfl rfl (StepS.move rfl) ?_
                  refine TO.s rfl rfl rfl (StepS.move rfl) ?_
                  obtain ⟨x94, hx95, hj71⟩ := bind_some hj71
                  refine TO.s rfl rfl rfl (StepS.idx rfl rfl (OwnS.rd (Ent.at 4 rfl)) ksliceB_24_3_1_true (idx_spec hx95).1 (idxm_lt hx95)) ?_
                  refine TO.s rfl rfl rfl (StepS.ld0 rfl (OwnS.rd (Ent.at 4 rfl)) kscalB_3_true rfl (idxm hx95) rfl) ?_
                  refine TO.s rfl rfl rfl (StepS.assign rfl) ?_
                  refine TO.code ?_
                  refine TC.k ?_
                  refine TC.k ?_
                  refine TC.region ?_
                  refine TO.s rfl rfl rfl (StepS.fld rfl kfieldB_47_0_0_true) ?_
                  refine TO.s rfl rfl rfl (StepS.ldB rfl (Ent.at 1 rfl) kscalB_3_true rfl) ?_
                  refine TO.s rfl rfl rfl (StepS.cmp rfl rfl rfl) ?_
                  refine TO.code ?_
                  obtain ⟨⟨y98, y99, y101, x102, t103, x104⟩, hj105, hj71⟩ := bind_some hj71
                  first | refine TC.cutM (fun a w => ∃ v96 : Value, ∃ v100 : Value, Mid 215 B [(0, I a0), (4, .pointer (some ⟨b4, 0, none⟩)), (5, .pointer (some ⟨bq5_4_1, 0, none⟩)), (6, v15), (7, v100), (10, .pointer (some ⟨b53, 0, none⟩)), (11, I x50.2.1), (15, I x94), (25, h1), (26, I (a1.length : Int)), (27, I x27)] (OwnS 9 1 v96 (y98.map cS) :: Bx b53 41 [I x102, .string t103, I x104, v96] :: Bx b52 47 [I x50.1, I x50.2.1, I x50.2.2.1, I x50.2.2.2.1, .string x50.2.2.2.2.1, .string x50.2.2.2.2.2.1, I x50.2.2.2.2.2.2] :: OwnS 45 4 v100 (y99.map cTissi) :: SN 41 4 nT41 v20 hs21 (y23) :: OwnS 3 1 v15 (y24.map cI) :: OwnS 3 1 v6 (y101.map cI) :: OwnS 3 1 v9 (y26.map cI) :: Bx bq5_4_1 26 [v20, v6, v9] :: Bx b4 26 [.slice none 0 0, .slice none 0 0, .slice none 0 0] :: L) a w) ?_ ?_ | refine TC.cutX (fun a w => ∃ v96 : Value, ∃ v100 : Value, Mid 215 B [(0, I a0), (4, .pointer (some ⟨b4, 0, none⟩)), (5, .pointer (some ⟨bq5_4_1, 0, none⟩)), (6, v15), (7, v100), (10, .pointer (some ⟨b53, 0, none⟩)), (11, I x50.2.1), (15, I x94), (25, h1), (26, I (a1.length : Int)), (27, I x27)] (OwnS 9 1 v96 (y98.map cS) :: Bx b53 41 [I x102, .string t103, I x104, v96] :: Bx b52 47 [I x50.1, I x50.2.1, I x50.2.2.1, I x50.2.2.2.1, .string x50.2.2.2.2.1, .string x50.2.2.2.2.2.1, I x50.2.2.2.2.2.2] :: OwnS 45 4 v100 (y99.map cTissi) :: SN 41 4 nT41 v20 hs21 (y23) :: OwnS 3 1 v15 (y24.map cI) :: OwnS 3 1 v6 (y101.map cI) :: OwnS 3 1 v9 (y26.map cI) :: Bx bq5_4_1 26 [v20, v6, v9] :: Bx b4 26 [.slice none 0 0, .slice none 0 0, .slice none 0 0] :: L) a w) ?_ ?_
                  · refine TC.cond rfl (fun hc106 => ?_) (fun hc106 => ?_)
                    · replace hj105 := cond_t hc106 hj105
                      refine TC.region ?_
                      refine TO.s rfl rfl rfl (StepS.fld rfl kfieldB_26_1_1_true) ?_
                      refine TO.s rfl rfl rfl (StepS.ldB rfl (Ent.at 7 rfl) kscalB_24_true rfl) ?_
                      refine TO.s rfl rfl rfl (StepS.move rfl) ?_
                      refine TO.s rfl rfl rfl (StepS.move rfl) ?_
                      refine TO.s rfl rfl rfl (StepS.lenm rfl (OwnS.rd (Ent.at 2 rfl)) ksliceB_34_45_4_true rfl) ?_
                      obtain ⟨x107, hx108, hj105⟩ := bind_some hj105
                      refine TO.s rfl rfl rfl (StepS.idx rfl rfl (OwnS.rd (Ent.at 5 rfl)) ksliceB_24_3_1_true (idx_spec hx108).1 (idxm_lt hx108)) ?_
                      refine TO.stO (i := x94.toNat) (off := 0) (us := [I (y19.length : Int)]) 5 (y19.length : Int) rfl rfl rfl ksizeB_3_1_true rfl rfl rfl (idx_spec hx108).2 rfl (by simp [Value.oneCell']) rfl ?_
                      cases hj105
                      refine TO.nil fun a w e s => ?_
                      exact ⟨.slice none 0 0, v17, e.sub (lk_of_allIn ⟨rfl, rfl, rfl, rfl, rfl, rfl, rfl, rfl, rfl, rfl, rfl, trivial⟩), s.mono fun _ s => (by replace s := Sat.nilS (e := 9) (sz := 1) (f := cS) s; exact Sat.by [9, 9, 9, 9, 9, 9, 9, 9, 9, 9] 10 0 (by kernel_rfl) s)⟩
                    · replace hj105 := cond_f hc106 hj105
                      refine TC.k ?_
                      refine TC.region ?_
                      refine TO.s rfl rfl rfl (StepS.fld rfl kfieldB_47_3_3_true) ?_
                      refine TO.s rfl rfl rfl (StepS.fld rfl kfieldB_45_0_0_true) ?_
                      refine TO.s rfl rfl rfl (StepS.ldB rfl (Ent.at 1 rfl) kscalB_3_true rfl) ?_
                      refine TO.s rfl rfl rfl (StepS.cmp rfl rfl rfl) ?_
                      refine TO.code ?_
                      refine TC.cond rfl (fun hc109 => ?_) (fun hc109 => ?_)
                      · replace hj105 := cond_t hc109 hj105
                        refine TC.k ?_
                        refine TC.region_any (Bx b53 41 [I 0, .string ByteArray.empty, I 0, .slice none 0 0] :: Bx b52 47 [I x50.1, I x50.2.1, I x50.2.2.1, I x50.2.2.2.1, .string x50.2.2.2.2.1, .string x50.2.2.2.2.2.1, I x50.2.2.2.2.2.2] :: OwnS 45 4 v17 (y19.map cTissi) :: SN 41 4 nT41 v20 hs21 (y23) :: OwnS 3 1 v15 (y24.map cI) :: OwnS 3 1 v6 (y25.map cI) :: OwnS 3 1 v9 (y26.map cI) :: Bx bq5_4_1 26 [v20, v6, v9] :: Bx b4 26 [.slice none 0 0, .slice none 0 0, .slice none 0 0] :: L) 14 14 kfollows_mixedOrders_true rfl ?_
                        refine TA.takeW 1 rfl rfl rfl rfl (StepS.move rfl) (by kernel_rfl) (by kernel_rfl) (by kernel_rfl) rfl (.inr (fun _ s => s)) ?_
                        refine TA.takeW 2 rfl rfl rfl rfl (StepS.fld rfl kfieldB_26_1_1_true) (by kernel_rfl) (by kernel_rfl) (by kernel_rfl) rfl (.inr (fun _ s => s)) ?_
                        refine TA.take 3 rfl rfl rfl rfl (StepS.ldB rfl (Ent.at 7 rfl) kscalB_24_true rfl) (by kernel_rfl) (by kernel_rfl) (by kernel_rfl) (by kernel_rfl) (by kernel_rfl) (fun _ s => s) ?_
                        refine TA.takeW 4 rfl rfl rfl rfl (StepS.move rfl) (by kernel_rfl) (by kernel_rfl) (by kernel_rfl) rfl (.inr (fun _ s => s)) ?_
                        obtain ⟨xq110_5_1, hxq110_5_2, hj105⟩ := bind_some hj105
                        refine TA.take 5 rfl rfl rfl rfl (StepS.idx rfl rfl (OwnS.rd (Ent.at 5 rfl)) ksliceB_24_3_1_true (idx_spec hxq110_5_2).1 (idxm_lt hxq110_5_2)) (by kernel_rfl) (by kernel_rfl) (by kernel_rfl) (by kernel_rfl) (by kernel_rfl) (fun _ s => s) ?_
                        refine TA.take 6 rfl rfl rfl rfl (StepS.ld0 rfl (OwnS.rd (Ent.at 5 rfl)) kscalB_3_true rfl (idxm hxq110_5_2) rfl) (by kernel_rfl) (by kernel_rfl) (by kernel_rfl) (by kernel_rfl) (by kernel_rfl) (fun _ s => s) ?_
                        obtain ⟨yq110_7_1, hsq110_7_2, hj105⟩ := bind_some hj105
                        obtain ⟨hsq110_7_2a, hsq110_7_2b, hsq110_7_2c, _⟩ := slI_spec hsq110_7_2
                        refine TA.take 7 rfl rfl rfl rfl (StepS.slc rfl (OwnS.rd (Ent.at 2 rfl)) ksliceB_34_45_4_true rfl rfl hsq110_7_2a hsq110_7_2b (by simpa using hsq110_7_2c)) (by kernel_rfl) (by kernel_rfl) (by kernel_rfl) (by kernel_rfl) (by kernel_rfl) (fun _ s => s) ?_
                        refine TA.all1 (i := 0) (by kernel_rfl) ?_
                        refine TB.of rfl ?_
                        obtain ⟨rq110_0_1, hcq110_0_2, hj105⟩ := bind_some hj105
                        refine TO.callO kcallB_20_true rfl rfl rfl (fun _ st => C20  hcq110_0_2 st) ?_
                        rintro vq110_0_3 _ ⟨_, rfl, rfl⟩
                        refine TA.back (.inr (fun _ s => Sat.by [9, 9, 9, 9, 9, 9, 9, 9, 9] 9 1 (by kernel_rfl) s)) ?_
                        refine TA.asL (L' := (OwnS 84 3 vq110_0_3 (rq110_0_1.map cTssi) :: Bx b53 41 [I 0, .string ByteArray.empty, I 0, .slice none 0 0] :: Bx b52 47 [I x50.1, I x50.2.1, I x50.2.2.1, I x50.2.2.2.1, .string x50.2.2.2.2.1, .string x50.2.2.2.2.2.1, I x50.2.2.2.2.2.2] :: OwnS 45 4 v17 (y19.map cTissi) :: SN 41 4 nT41 v20 hs21 (y23) :: OwnS 3 1 v15 (y24.map cI) :: OwnS 3 1 v6 (y25.map cI) :: OwnS 3 1 v9 (y26.map cI) :: Bx bq5_4_1 26 [v20, v6, v9] :: Bx b4 26 [.slice none 0 0, .slice none 0 0, .slice none 0 0] :: L)) (listed' := #[true, true, true, true, true, true, true, true, false, false, false, false, false, false]) (by kernel_rfl) (by kernel_rfl) ?_
                        refine TA.all1 (i := 8) (by kernel_rfl) ?_
                        refine TB.of rfl ?_
                        obtain ⟨⟨rq110_8_1, rq110_8_2⟩, hcq110_8_3, hj105⟩ := bind_some hj105
                        refine TO.callO kcallB_19_true rfl rfl rfl (fun _ st => C19 (Ent.sub (OwnS.rd (Ent.at 2 rfl)) hsq110_7_2) hcq110_8_3 st) ?_
                        rintro _ _ ⟨vq110_8_4, vq110_8_6, hsq110_8_7, rfl, rfl⟩
                        refine TA.back (.inr (fun _ s => Sat.by [10, 10, 10, 10, 10, 10, 10, 10, 10] 9 2 (by kernel_rfl) s)) ?_
                        refine TA.asL (L' := (OwnS 84 3 vq110_8_4 (rq110_8_1.map cTssi) :: SN 41 4 nT41 vq110_8_6 hsq110_8_7 (rq110_8_2) :: Bx b53 41 [I 0, .string ByteArray.empty, I 0, .slice none 0 0] :: Bx b52 47 [I x50.1, I x50.2.1, I x50.2.2.1, I x50.2.2.2.1, .string x50.2.2.2.2.1, .string x50.2.2.2.2.2.1, I x50.2.2.2.2.2.2] :: OwnS 45 4 v17 (y19.map cTissi) :: SN 41 4 nT41 v20 hs21 (y23) :: OwnS 3 1 v15 (y24.map cI) :: OwnS 3 1 v6 (y25.map cI) :: OwnS 3 1 v9 (y26.map cI) :: Bx bq5_4_1 26 [v20, v6, v9] :: Bx b4 26 [.slice none 0 0, .slice none 0 0, .slice none 0 0] :: L)) (listed' := #[true, true, true, true, true, true, true, true, true, false, false, false, false, false]) (by kernel_rfl) (by kernel_rfl) ?_
                        refine TA.takeW 9 rfl rfl rfl rfl (StepS.move rfl) (by kernel_rfl) (by kernel_rfl) (by kernel_rfl) rfl (.inr (fun _ s => Sat.by [10, 10, 10, 10, 10, 10, 10, 10, 10] 9 2 (by kernel_rfl) s)) ?_
                        refine TA.takeW 10 rfl rfl rfl rfl (StepS.extract rfl rfl) (by kernel_rfl) (by kernel_rfl) (by kernel_rfl) rfl (.inr (fun _ s => Sat.by [10, 10, 10, 10, 10, 10, 10, 10, 10] 9 2 (by kernel_rfl) s)) ?_
                        refine TA.takeW 11 rfl rfl rfl rfl (StepS.extract rfl rfl) (by kernel_rfl) (by kernel_rfl) (by kernel_rfl) rfl (.inr (fun _ s => Sat.by [10, 10, 10, 10, 10, 10, 10, 10, 10] 9 2 (by kernel_rfl) s)) ?_
                        refine TA.takeW 12 rfl rfl rfl rfl (StepS.assign rfl) (by kernel_rfl) (by kernel_rfl) (by kernel_rfl) rfl (.inr (fun _ s => Sat.by [10, 10, 10, 10, 10, 10, 10, 10, 10] 9 2 (by kernel_rfl) s)) ?_
                        refine TA.takeW 13 rfl rfl rfl rfl (StepS.assign rfl) (by kernel_rfl) (by kernel_rfl) (by kernel_rfl) rfl (.inr (fun _ s => Sat.by [10, 10, 10, 10, 10, 10, 10, 10, 10] 9 2 (by kernel_rfl) s)) ?_
                        refine TA.code (by kernel_rfl) ?_
                        refine TC.region ?_
                        refine TO.s rfl rfl rfl (StepS.move rfl) ?_
                        refine TO.s rfl rfl rfl (StepS.fld rfl kfieldB_47_3_3_true) ?_
                        refine TO.s rfl rfl rfl (StepS.ldBA rfl (Ent.at 3 rfl) kaggB_45_4_true rfl rfl) ?_
                        obtain ⟨⟨r111, r112⟩, hc113, hj105⟩ := bind_some hj105
                        refine TO.callO kcallB_30_true rfl rfl rfl (fun _ st => C30  hc113 st) ?_
                        rintro _ _ ⟨v114, v116, rfl, rfl⟩
                        refine TO.s rfl rfl rfl (StepS.move rfl) ?_
                        refine TO.s rfl rfl rfl (StepS.extract rfl rfl) ?_
                        refine TO.s rfl rfl rfl (StepS.extract rfl rfl) ?_
                        refine TO.pure (fun _ s => Rd.one (OwnS.rd (Ent.at 1 rfl)) s) fun oc118 => ?_
                        refine TO.stB (us := [I r112.1, .string r112.2.1, I r112.2.2.1, v116]) 3 [I r112.1, .string r112.2.1, I r112.2.2.1, v116] rfl rfl rfl ksizeB_41_4_true rfl rfl rfl (by intro u hu; simp only [List.mem_cons, List.not_mem_nil, or_false] at hu; rcases hu with rfl | rfl | rfl | rfl <;> first | exact oc118.1 | rfl) rfl ?_
                        cases hj105
                        refine TO.nil fun a w e s => ?_
                        exact ⟨v116, v17, e.sub (lk_of_allIn ⟨rfl, rfl, rfl, rfl, rfl, rfl, rfl, rfl, rfl, rfl, rfl, trivial⟩), s.mono fun _ s => (by exact Sat.by [11, 11, 11, 11, 11, 11, 11, 11, 11, 10] 10 2 (by kernel_rfl) s)⟩
                      · replace hj105 := cond_f hc109 hj105
                        refine TC.k ?_
                        refine TC.region ?_
                        obtain ⟨r119, hc120, hj105⟩ := bind_some hj105
                        refine TO.callO kcallB_20_true rfl rfl rfl (fun _ st => C20  hc120 st) ?_
                        rintro v121 _ ⟨_, rfl, rfl⟩
                        refine TO.s rfl rfl rfl (StepS.move rfl) ?_
                        obtain ⟨⟨r123, r124⟩, hc125, hj105⟩ := bind_some hj105
                        refine TO.callO kcallB_19_true rfl rfl rfl (fun _ st => C19 (OwnS.rd (Ent.at 2 rfl)) hc125 st) ?_
                        rintro _ _ ⟨v126, v128, hs129, rfl, rfl⟩
                        refine TO.s rfl rfl rfl (StepS.move rfl) ?_
                        refine TO.s rfl rfl rfl (StepS.extract rfl rfl) ?_
                        refine TO.s rfl rfl rfl (StepS.extract rfl rfl) ?_
                        refine TO.s rfl rfl rfl (StepS.assign rfl) ?_
                        refine TO.s rfl rfl rfl (StepS.assign rfl) ?_
                        refine TO.code ?_
                        refine TC.k ?_
                        refine TC.region ?_
                        refine TO.s rfl rfl rfl (StepS.move rfl) ?_
                        refine TO.s rfl rfl rfl (StepS.fld rfl kfieldB_47_3_3_true) ?_
                        refine TO.s rfl rfl rfl (StepS.ldBA rfl (Ent.at 3 rfl) kaggB_45_4_true rfl rfl) ?_
                        obtain ⟨⟨r131, r132⟩, hc133, hj105⟩ := bind_some hj105
                        refine TO.callO kcallB_30_true rfl rfl rfl (fun _ st => C30  hc133 st) ?_
                        rintro _ _ ⟨v134, v136, rfl, rfl⟩
                        refine TO.s rfl rfl rfl (StepS.move rfl) ?_
                        refine TO.s rfl rfl rfl (StepS.extract rfl rfl) ?_
                        refine TO.s rfl rfl rfl (StepS.extract rfl rfl) ?_
                        refine TO.pure (fun _ s => Rd.one (OwnS.rd (Ent.at 1 rfl)) s) fun oc138 => ?_
                        refine TO.stB (us := [I r132.1, .string r132.2.1, I r132.2.2.1, v136]) 3 [I r132.1, .string r132.2.1, I r132.2.2.1, v136] rfl rfl rfl ksizeB_41_4_true rfl rfl rfl (by intro u hu; simp only [List.mem_cons, List.not_mem_nil, or_false] at hu; rcases hu with rfl | rfl | rfl | rfl <;> first | exact oc138.1 | rfl) rfl ?_
                        refine TO.code ?_
                        refine TC.k ?_
                        refine TC.region ?_
                        refine TO.s rfl rfl rfl (StepS.move rfl) ?_
                        refine TO.s rfl rfl rfl (StepS.fld rfl kfieldB_47_3_3_true) ?_
                        refine TO.s rfl rfl rfl (StepS.ldBA rfl (Ent.at 4 rfl) kaggB_45_4_true rfl rfl) ?_
                        refine TO.litS (f := cTissi) ([(x50.2.2.2.1, x50.2.2.2.2.1, x50.2.2.2.2.2.1, x50.2.2.2.2.2.2)] : List (Int × ByteArray × ByteArray × Int)) kelemB_34_45_4_48_true kinfo_45_bind_zero_some_agg_I_0_string_ByteArray_empty_string_ByteArray_empty_I_0 rfl rfl (fun _ => rfl) rfl rfl (by kernel_rfl) rfl fun v139 => ?_
                        obtain ⟨y141, hk142, hj105⟩ := bind_some hj105
                        refine TO.app (k := 6) (f := cTissi) kelemB_34_45_4_48_true (by decide) rfl rfl rfl (OwnS.rd (Ent.at 0 rfl)) hk142 (fun x c hc => by simp [Value.oneCell'] at hc ⊢; first | (obtain rfl := hc; rfl) | (rcases hc with rfl | rfl | rfl | rfl <;> rfl)) rfl rfl fun v143 => ?_
                        refine TO.s rfl rfl rfl (StepS.assign rfl) ?_
                        refine TO.code ?_
                        refine TC.region ?_
                        refine TO.s rfl rfl rfl (StepS.fld rfl kfieldB_26_1_1_true) ?_
                        refine TO.s rfl rfl rfl (StepS.ldB rfl (Ent.at 11 rfl) kscalB_24_true rfl) ?_
                        refine TO.s rfl rfl rfl (StepS.move rfl) ?_
                        refine TO.s rfl rfl rfl (StepS.move rfl) ?_
                        refine TO.s rfl rfl rfl (StepS.lenm rfl (OwnS.rd (Ent.at 6 rfl)) ksliceB_34_45_4_true rfl) ?_
                        obtain ⟨x144, hx145, hj105⟩ := bind_some hj105
                        refine TO.s rfl rfl rfl (StepS.idx rfl rfl (OwnS.rd (Ent.at 9 rfl)) ksliceB_24_3_1_true (idx_spec hx145).1 (idxm_lt hx145)) ?_
                        refine TO.stO (i := x94.toNat) (off := 0) (us := [I (y141.length : Int)]) 9 (y141.length : Int) rfl rfl rfl ksizeB_3_1_true rfl rfl rfl (idx_spec hx145).2 rfl (by simp [Value.oneCell']) rfl ?_
                        cases hj105
                        refine TO.nil fun a w e s => ?_
                        exact ⟨v136, v143, e.sub (lk_of_allIn ⟨rfl, rfl, rfl, rfl, rfl, rfl, rfl, rfl, rfl, rfl, rfl, trivial⟩), s.mono fun _ s => (by exact Sat.by [12, 12, 12, 12, 12, 12, 12, 12, 12, 11] 10 3 (by kernel_rfl) s)⟩
                  · intro a w ⟨v96, v100, he, hs⟩
                    refine TC.use ?_ he hs
                    refine TC.region_tail 9 kfollows_mixedOrders_true (by kernel_rfl) ?_
                    refine TS.s rfl rfl rfl (StepS.fld rfl kfieldB_26_2_2_true) ?_
                    refine TS.s rfl rfl rfl (StepS.ldB rfl (Ent.at 8 rfl) kscalB_24_true rfl) ?_
                    refine TS.s rfl rfl rfl (StepS.move rfl) ?_
                    refine TS.s rfl rfl rfl (StepS.fld rfl kfieldB_26_1_1_true) ?_
                    refine TS.s rfl rfl rfl (StepS.ldB rfl (Ent.at 8 rfl) kscalB_24_true rfl) ?_
                    refine TS.s rfl rfl rfl (StepS.move rfl) ?_
                    obtain ⟨x146, hx147, hj71⟩ := bind_some hj71
                    refine TS.s rfl rfl rfl (StepS.idx rfl rfl (OwnS.rd (Ent.at 6 rfl)) ksliceB_24_3_1_true (idx_spec hx147).1 (idxm_lt hx147)) ?_
                    refine TS.s rfl rfl rfl (StepS.ld0 rfl (OwnS.rd (Ent.at 6 rfl)) kscalB_3_true rfl (idxm hx147) rfl) ?_
                    obtain ⟨x148, hx149, hj71⟩ := bind_some hj71
                    refine TS.s rfl rfl rfl (StepS.idx rfl rfl (OwnS.rd (Ent.at 7 rfl)) ksliceB_24_3_1_true (idx_spec hx149).1 (idxm_lt hx149)) ?_
                    refine TS.nil ?_
                    refine TO.at ?_
                    refine TO.stO (i := x50.2.1.toNat) (off := 0) (us := [I x146]) 7 x146 rfl rfl rfl ksizeB_3_1_true rfl rfl rfl (idx_spec hx149).2 rfl (by simp [Value.oneCell']) rfl ?_
                    cases hj71
                    refine TO.nil fun a w e s => ?_
                    exact ⟨v96, v100, e.sub (lk_of_allIn ⟨rfl, rfl, rfl, rfl, rfl, rfl, rfl, rfl, rfl, trivial⟩), s⟩
        · intro a w ⟨v60, v64, he, hs⟩
          refine TC.use ?_ he hs
          refine TC.region ?_
          refine TO.s rfl rfl rfl (StepS.fld rfl kfieldB_26_0_0_true) ?_
          refine TO.s rfl rfl rfl (StepS.ldB rfl (Ent.at 8 rfl) kscalB_23_true rfl) ?_
          refine TO.s rfl rfl rfl (StepS.ldBA rfl (Ent.at 1 rfl) kaggB_41_4_true rfl rfl) ?_
          refine TO.litS (f := fun (_ : Unit) => [I x68, .string t69, I x70, v60]) [()] kelemB_23_41_4_56_true kinfo_41_bind_zero_some_agg_I_0_string_ByteArray_empty_I_0_slice_none_0_0 rfl rfl (fun _ => rfl) rfl rfl (by kernel_rfl) rfl fun v150 => ?_
          refine TO.pure (fun _ s => Rd.one (OwnS.rd (Ent.at 1 rfl)) s) fun oc152 => ?_
          refine TO.ghost (fun _ s => Sat.front 5 rfl s) ?_
          refine TO.ghost (fun _ s => Sat.front 2 rfl s) ?_
          obtain ⟨y153, hk154, hb48⟩ := bind_some hb48
          refine TO.appN (T := nT41) (z := (x68, t69, x70, y62)) [v60] rfl kelemB_23_41_4_56_true (by decide) rfl rfl (OwnS.rd (Ent.at 0 rfl)) hk154 (by intro u hu; have hu : u ∈ [I x68, .string t69, I x70, v60] := hu; simp only [List.mem_cons, List.not_mem_nil, or_false] at hu; rcases hu with rfl | rfl | rfl | rfl <;> first | rfl | exact oc152.1) rfl rfl fun v155 hs156 => ?_
          refine TO.ghost (fun _ s => Sat.erase 1 s) ?_
          refine TO.s rfl rfl rfl (StepS.fld rfl kfieldB_26_0_0_true) ?_
          refine TO.pure (fun _ s => Rd.one (SN.top (Ent.at 0 rfl)) s) fun oc157 => ?_
          refine TO.stB (us := [v155]) 7 [v155, v6, v9] rfl rfl rfl ksizeB_23_1_true oc157.2 rfl rfl (by intro u hu; simp only [List.mem_cons, List.not_mem_nil, or_false] at hu; rcases hu with rfl <;> first | exact oc157.1 | rfl) rfl ?_
          refine TO.code ?_
          refine TC.region ?_
          refine TO.s rfl rfl rfl (StepS.ari rfl rfl rfl) ?_
          refine TO.s rfl rfl rfl (StepS.move rfl) ?_
          cases hb48
          refine TO.nil fun a w e s => ?_
          exact ⟨v64, v155, hs156, e.sub (lk_of_allIn ⟨rfl, rfl, rfl, rfl, rfl, rfl, rfl, rfl, trivial⟩), s.mono fun _ s => (by exact Sat.by [8, 8, 8, 8, 8, 5, 8] 7 2 (by kernel_rfl) s)⟩
      · replace hb48 := cond_f hc49 hb48
        cases hb48
        refine TC.exit rfl fun a w e s => ?_
        exact ⟨v20, hs21, e.sub (lk_of_allIn ⟨rfl, rfl, trivial⟩), s.mono fun _ => Sat.dropN 1⟩
    · exact fun a w e s => ⟨.slice none 0 0, .slice none 0 0, [], e.sub (lk_of_allIn ⟨rfl, rfl, rfl, rfl, rfl, rfl, rfl, rfl, trivial⟩), s.mono fun _ s => (by replace s := Sat.nilSN (e := 41) (sz := 4) (T := nT41) s; replace s := Sat.nilS (e := 45) (sz := 4) (f := cTissi) s; exact Sat.by [6, 6, 6, 6, 6, 6, 6] 7 0 (by kernel_rfl) s)⟩
    · rintro ⟨y42, y43, y44, y45⟩ rfl a w ⟨v39, hs40, he, hs⟩
      dsimp only [Ctl.on] at hm
      refine TC.use ?_ he hs
      refine TC.k ?_
      refine TC.region ?_
      refine TO.s rfl rfl rfl (StepS.ldBA rfl (Ent.at 4 rfl) kaggB_26_3_true rfl rfl) ?_
      refine TO.pure (fun _ s => Rd.one (SN.top (Ent.at 0 rfl)) s) fun oc158 => ?_
      refine TO.pure (fun _ s => Rd.one (OwnS.rd (Ent.at 2 rfl)) s) fun oc159 => ?_
      refine TO.pure (fun _ s => Rd.one (OwnS.rd (Ent.at 3 rfl)) s) fun oc160 => ?_
      refine TO.stB (us := [v39, v6, v9]) 5 [v39, v6, v9] rfl rfl rfl ksizeB_26_3_true rfl rfl rfl (by intro u hu; simp only [List.mem_cons, List.not_mem_nil, or_false] at hu; rcases hu with rfl | rfl | rfl <;> first | exact oc158.1 | exact oc159.1 | exact oc160.1 | rfl) rfl ?_
      refine TO.code ?_
      cases hm
      refine TC.ret fun a w e s => ?_
      refine FRet.cell1 (P := Tryd.prog) (fn := Tryd.f25) e s rfl rfl (Ent.at 5 rfl) kaggB_26_3_true rfl ?_
      refine ⟨_, _, rfl, ⟨(v39), (hs40), (v6), (v9), rfl, rfl⟩, ?_⟩
      refine s.mono fun _ s => ?_
      replace s := Sat.front 3 rfl s
      replace s := Sat.front 3 rfl s
      replace s := Sat.front 2 rfl s
      replace s := Sat.erase 3 s
      replace s := Sat.erase 3 s
      replace s := Sat.erase 3 s
      exact s
    · rintro r rfl
      exact fun a w h => h.elim

set_option maxRecDepth 100000 in
theorem C18 {B : World} {L : List HP} {a0 : List Int} {a1 : List Int} {h0 : Value} {h1 : Value} {r0 : Bool} (e0 : Ent L (Rd 1 h0 (a0.map cI))) (e1 : Ent L (Rd 1 h1 (a1.map cI))) (hm : F18 a0 a1 = some r0) {w : World} (st : St B L w) : Calls Tryd.prog 18 #[h0, h1] w (fun e w' => (e = .returned (.bool r0) ∧ St B (L) w')) := by
  refine calls_of (N := 26) (L := L) (args := [h0, h1]) Tryd.func18 rfl rfl rfl ?_ st
  dsimp only [F18] at hm
  refine TC.k ?_
  refine TC.region ?_
  refine TO.s rfl rfl rfl (StepS.assign rfl) ?_
  refine TO.code ?_
  refine TC.k ?_
  refine TC.k ?_
  refine TC.region ?_
  refine TO.s rfl rfl rfl (StepS.move rfl) ?_
  refine TO.s rfl rfl rfl (StepS.lenm rfl e0 ksliceB_24_3_1_true rfl) ?_
  refine TO.s rfl rfl rfl (StepS.move rfl) ?_
  refine TO.s rfl rfl rfl (StepS.lenm rfl e1 ksliceB_24_3_1_true rfl) ?_
  refine TO.s rfl rfl rfl (StepS.cmp rfl rfl rfl) ?_
  refine TO.code ?_
  refine TC.cond rfl (fun hc1 => ?_) (fun hc1 => ?_)
  · replace hm := cond_t hc1 hm
    refine TC.k ?_
    refine TC.region ?_
    refine TO.s rfl rfl rfl (StepS.assign rfl) ?_
    refine TO.code ?_
    cases hm
    refine TC.ret fun a w e s => ?_
    refine FRet.mk1 (P := Tryd.prog) (fn := Tryd.f18) (t := 4) e rfl rfl ?_
    exact ⟨rfl, s.mono fun _ => Sat.dropN 0⟩
  · replace hm := cond_f hc1 hm
    refine TC.skipk ?_
    refine TC.k ?_
    refine TC.k ?_
    refine TC.region ?_
    refine TO.s rfl rfl rfl (StepS.assign rfl) ?_
    refine TO.code ?_
    obtain ⟨o4, hw5, hm⟩ := bind_some hm
    refine TC.loop hw5 (fun x2 => fun a w => Mid 26 B [(0, h0), (1, h1), (5, I x2)] (L) a w) (fun _ => fun a w => Mid 26 B [] (L) a w) (fun r0 => FRet Tryd.prog Tryd.f18 (fun e w' => (e = .returned (.bool r0) ∧ St B (L) w'))) ?_ ?_ ?_ ?_
    · rintro x2 o4r hb6 a w ⟨he, hs⟩
      dsimp only [F18_L0] at hb6
      refine TC.use ?_ he hs
      refine TC.k ?_
      refine TC.k ?_
      refine TC.region ?_
      refine TO.s rfl rfl rfl (StepS.move rfl) ?_
      refine TO.s rfl rfl rfl (StepS.move rfl) ?_
      refine TO.s rfl rfl rfl (StepS.lenm rfl e0 ksliceB_24_3_1_true rfl) ?_
      refine TO.s rfl rfl rfl (StepS.cmp rfl rfl rfl) ?_
      refine TO.code ?_
      refine TC.cond rfl (fun hc7 => ?_) (fun hc7 => ?_)
      · replace hb6 := cond_t hc7 hb6
        refine TC.skipk ?_
        refine TC.k ?_
        refine TC.block ?_
        refine TC.k ?_
        refine TC.region_still kfollows_mixedOrders_true (by kernel_rfl) ?_
        refine TS.s rfl rfl rfl (StepS.move rfl) ?_
        refine TS.s rfl rfl rfl (StepS.move rfl) ?_
        obtain ⟨x8, hx9, hb6⟩ := bind_some hb6
        refine TS.s rfl rfl rfl (StepS.idx rfl rfl e0 ksliceB_24_3_1_true (idx_spec hx9).1 (idxm_lt hx9)) ?_
        refine TS.s rfl rfl rfl (StepS.ld0 rfl e0 kscalB_3_true rfl (idxm hx9) rfl) ?_
        refine TS.s rfl rfl rfl (StepS.move rfl) ?_
        refine TS.s rfl rfl rfl (StepS.move rfl) ?_
        obtain ⟨x10, hx11, hb6⟩ := bind_some hb6
        refine TS.s rfl rfl rfl (StepS.idx rfl rfl e1 ksliceB_24_3_1_true (idx_spec hx11).1 (idxm_lt hx11)) ?_
        refine TS.s rfl rfl rfl (StepS.ld0 rfl e1 kscalB_3_true rfl (idxm hx11) rfl) ?_
        refine TS.s rfl rfl rfl (StepS.cmp rfl rfl rfl) ?_
        refine TS.code ?_
        refine TC.cond rfl (fun hc12 => ?_) (fun hc12 => ?_)
        · replace hb6 := cond_t hc12 hb6
          refine TC.k ?_
          refine TC.region ?_
          refine TO.s rfl rfl rfl (StepS.assign rfl) ?_
          refine TO.code ?_
          cases hb6
          refine TC.ret fun a w e s => ?_
          refine FRet.mk1 (P := Tryd.prog) (fn := Tryd.f18) (t := 4) e rfl rfl ?_
          exact ⟨rfl, s.mono fun _ => Sat.dropN 0⟩
        · replace hb6 := cond_f hc12 hb6
          refine TC.skipk ?_
          refine TC.region ?_
          refine TO.s rfl rfl rfl (StepS.move rfl) ?_
          refine TO.s rfl rfl rfl (StepS.ari rfl rfl rfl) ?_
          refine TO.s rfl rfl rfl (StepS.assign rfl) ?_
          cases hb6
          refine TO.nil fun a w e s => ?_
          exact ⟨e.sub (lk_of_allIn ⟨rfl, rfl, rfl, trivial⟩), s⟩
      · replace hb6 := cond_f hc7 hb6
        cases hb6
        refine TC.exit rfl fun a w e s => ?_
        exact ⟨e.sub (lk_of_allIn trivial), s⟩
    · exact fun a w e s => ⟨e.sub (lk_of_allIn ⟨rfl, rfl, rfl, trivial⟩), s⟩
    · rintro _ rfl a w ⟨he, hs⟩
      dsimp only [Ctl.on] at hm
      refine TC.use ?_ he hs
      refine TC.k ?_
      refine TC.region ?_
      refine TO.s rfl rfl rfl (StepS.assign rfl) ?_
      refine TO.code ?_
      cases hm
      refine TC.ret fun a w e s => ?_
      refine FRet.mk1 (P := Tryd.prog) (fn := Tryd.f18) (t := 4) e rfl rfl ?_
      exact ⟨rfl, s.mono fun _ => Sat.dropN 0⟩
    · rintro r rfl
      cases hm
      exact fun a w h => h

set_option maxRecDepth 100000 in
theorem C9 {B : World} {L : List HP} {a0 : Int} {a1 : List (Int × Int × Int × Int × ByteArray × ByteArray × Int)} {h1 : Value} {r0 : Bool} (e1 : Ent L (Rd 7 h1 (a1.map cTiiiissi))) (hm : F9 a0 a1 = some r0) {w : World} (st : St B L w) : Calls Tryd.prog 9 #[I a0, h1] w (fun e w' => (e = .returned (.bool r0) ∧ St B (L) w')) := by
  refine calls_of (N := 49) (L := L) (args := [I a0, h1]) Tryd.func9 rfl rfl rfl ?_ st
  dsimp only [F9] at hm
  refine TC.k ?_
  refine TC.region ?_
  refine TO.s rfl rfl rfl (StepS.assign rfl) ?_
  refine TO.code ?_
  refine TC.k ?_
  refine TC.region ?_
  refine TO.s rfl rfl rfl (StepS.move rfl) ?_
  refine TO.s rfl rfl rfl (StepS.move rfl) ?_
  obtain ⟨⟨r1, r2⟩, hc3, hm⟩ := bind_some hm
  refine TO.callO kcallB_10_true rfl rfl rfl (fun _ st => C10 e1 hc3 st) ?_
  rintro _ _ ⟨v4, hs5, v7, v9, rfl, rfl⟩
  refine TO.s rfl rfl rfl (StepS.move rfl) ?_
  refine TO.s rfl rfl rfl (StepS.extract rfl rfl) ?_
  refine TO.s rfl rfl rfl (StepS.extract rfl rfl) ?_
  refine TO.alloc kinfo_26_bind_zero_some_agg_slice_none_0_0_slice_none_0_0_slice_none_0_0 rfl rfl fun b11 => ?_
  refine TO.pure (fun _ s => Rd.one (SN.top (Ent.at 1 rfl)) s) fun oc12 => ?_
  refine TO.pure (fun _ s => Rd.one (OwnS.rd (Ent.at 2 rfl)) s) fun oc13 => ?_
  refine TO.pure (fun _ s => Rd.one (OwnS.rd (Ent.at 3 rfl)) s) fun oc14 => ?_
  refine TO.stB (us := [v4, v7, v9]) 0 [v4, v7, v9] rfl rfl rfl ksizeB_26_3_true rfl rfl rfl (by intro u hu; simp only [List.mem_cons, List.not_mem_nil, or_false] at hu; rcases hu with rfl | rfl | rfl <;> first | exact oc12.1 | exact oc13.1 | exact oc14.1 | rfl) rfl ?_
  refine TO.s rfl rfl rfl (StepS.assign rfl) ?_
  refine TO.code ?_
  refine TC.k ?_
  refine TC.region ?_
  refine TO.s rfl rfl rfl (StepS.move rfl) ?_
  refine TO.s rfl rfl rfl (StepS.move rfl) ?_
  refine TO.s rfl rfl rfl (StepS.lenm rfl e1.tl.tl.tl.tl ksliceB_22_47_7_true rfl) ?_
  obtain ⟨r15, hc16, hm⟩ := bind_some hm
  refine TO.q rfl rfl rfl (StepQ.call kcallB_11_true rfl rfl (fun _ st => C11  hc16 st)) ?_
  refine TO.s rfl rfl rfl (StepS.assign rfl) ?_
  refine TO.code ?_
  refine TC.k ?_
  refine TC.region ?_
  refine TO.s rfl rfl rfl (StepS.build (cs := [.slice none 0 0, .slice none 0 0, .slice none 0 0]) rfl (by kernel_rfl)) ?_
  refine TO.alloc kinfo_26_bind_zero_some_agg_slice_none_0_0_slice_none_0_0_slice_none_0_0 rfl rfl fun b17 => ?_
  refine TO.stB (us := [.slice none 0 0, .slice none 0 0, .slice none 0 0]) 0 [.slice none 0 0, .slice none 0 0, .slice none 0 0] rfl rfl rfl ksizeB_26_3_true rfl rfl rfl (by simp [Value.oneCell']) rfl ?_
  refine TO.code ?_
  refine TC.k ?_
  refine TC.k ?_
  refine TC.region ?_
  refine TO.s rfl rfl rfl (StepS.move rfl) ?_
  refine TO.s rfl rfl rfl (StepS.cmp rfl rfl rfl) ?_
  refine TO.code ?_
  obtain ⟨⟨y21, y24, y27⟩, hj28, hm⟩ := bind_some hm
  first | refine TC.cutM (fun a w => ∃ v18 : Value, ∃ hs19 : List (List Value), ∃ v22 : Value, ∃ v25 : Value, Mid 49 B [(5, .pointer (some ⟨b11, 0, none⟩)), (6, I r2), (7, I r15), (8, .pointer (some ⟨b17, 0, none⟩))] (SN 41 4 nT41 v18 hs19 (y21) :: OwnS 3 1 v22 (y24.map cI) :: OwnS 3 1 v25 (y27.map cI) :: Bx b17 26 [v18, v22, v25] :: Bx b11 26 [v4, v7, v9] :: SN 41 4 nT41 v4 hs5 (r1.1) :: OwnS 3 1 v7 (r1.2.1.map cI) :: OwnS 3 1 v9 (r1.2.2.map cI) :: L) a w) ?_ ?_ | refine TC.cutX (fun a w => ∃ v18 : Value, ∃ hs19 : List (List Value), ∃ v22 : Value, ∃ v25 : Value, Mid 49 B [(5, .pointer (some ⟨b11, 0, none⟩)), (6, I r2), (7, I r15), (8, .pointer (some ⟨b17, 0, none⟩))] (SN 41 4 nT41 v18 hs19 (y21) :: OwnS 3 1 v22 (y24.map cI) :: OwnS 3 1 v25 (y27.map cI) :: Bx b17 26 [v18, v22, v25] :: Bx b11 26 [v4, v7, v9] :: SN 41 4 nT41 v4 hs5 (r1.1) :: OwnS 3 1 v7 (r1.2.1.map cI) :: OwnS 3 1 v9 (r1.2.2.map cI) :: L) a w) ?_ ?_
  · refine TC.cond rfl (fun hc29 => ?_) (fun hc29 => ?_)
    · replace hj28 := cond_t hc29 hj28
      refine TC.region ?_
      refine TO.s rfl rfl rfl (StepS.move rfl) ?_
      refine TO.s rfl rfl rfl (StepS.move rfl) ?_
      obtain ⟨r30, hc31, hj28⟩ := bind_some hj28
      refine TO.callO kcallB_25_true rfl rfl rfl (fun _ st => C25 e1.tl.tl.tl.tl.tl hc31 st) ?_
      rintro _ _ ⟨v32, hs33, v35, v37, rfl, rfl⟩
      refine TO.pure (fun _ s => Rd.one (SN.top (Ent.at 0 rfl)) s) fun oc39 => ?_
      refine TO.pure (fun _ s => Rd.one (OwnS.rd (Ent.at 1 rfl)) s) fun oc40 => ?_
      refine TO.pure (fun _ s => Rd.one (OwnS.rd (Ent.at 2 rfl)) s) fun oc41 => ?_
      refine TO.stB (us := [v32, v35, v37]) 3 [v32, v35, v37] rfl rfl rfl ksizeB_26_3_true rfl rfl rfl (by intro u hu; simp only [List.mem_cons, List.not_mem_nil, or_false] at hu; rcases hu with rfl | rfl | rfl <;> first | exact oc39.1 | exact oc40.1 | exact oc41.1 | rfl) rfl ?_
      cases hj28
      refine TO.nil fun a w e s => ?_
      exact ⟨v32, hs33, v35, v37, e.sub (lk_of_allIn ⟨rfl, rfl, rfl, rfl, trivial⟩), s⟩
    · replace hj28 := cond_f hc29 hj28
      cases hj28
      refine TC.skip fun a w e s => ?_
      exact ⟨.slice none 0 0, [], .slice none 0 0, .slice none 0 0, e.sub (lk_of_allIn ⟨rfl, rfl, rfl, rfl, trivial⟩), s.mono fun _ s => (by replace s := Sat.nilS (e := 3) (sz := 1) (f := cI) s; replace s := Sat.nilS (e := 3) (sz := 1) (f := cI) s; replace s := Sat.nilSN (e := 41) (sz := 4) (T := nT41) s; exact Sat.by [7, 7, 7, 7, 7, 7, 7, 7] 8 0 (by kernel_rfl) s)⟩
  · intro a w ⟨v18, hs19, v22, v25, he, hs⟩
    refine TC.use ?_ he hs
    refine TC.k ?_
    refine TC.region ?_
    refine TO.s rfl rfl rfl (StepS.move rfl) ?_
    refine TO.s rfl rfl rfl (StepS.move rfl) ?_
    refine TO.s rfl rfl rfl (StepS.cmp rfl rfl rfl) ?_
    refine TO.s rfl rfl rfl (StepS.move rfl) ?_
    obtain ⟨b43, hj44, hm⟩ := bind_some hm
    refine TO.mid1 6 34 (.bool b43) ?_ ?_
    · refine bcase ((r2 == r15)) (fun hb42 => ?_) (fun hb42 => ?_)
      · replace hj44 := cond_t hb42 hj44
        refine TO.sw rfl rfl rfl hb42 rfl rfl (StepS.fld rfl kfieldB_26_0_0_true) ?_
        refine TO.sw rfl rfl rfl hb42 rfl rfl (StepS.ldB rfl (Ent.at 4 rfl) kscalB_23_true rfl) ?_
        refine TO.sw rfl rfl rfl hb42 rfl rfl (StepS.fld rfl kfieldB_26_0_0_true) ?_
        refine TO.sw rfl rfl rfl hb42 rfl rfl (StepS.ldB rfl (Ent.at 3 rfl) kscalB_23_true rfl) ?_
        obtain ⟨r45, hc46, hj44⟩ := bind_some hj44
        refine TO.qw rfl rfl rfl hb42 rfl rfl (StepQ.call kcallB_13_true rfl rfl (fun _ st => C13 (Ent.at 5 rfl) (Ent.at 0 rfl) hc46 st)) ?_
        cases hj44
        refine TO.s rfl rfl rfl (StepS.pickT rfl hb42 rfl) ?_
        exact TO.up1 6 0 rfl rfl rfl rfl
      · replace hj44 := cond_f hb42 hj44
        cases hj44
        refine TO.skip rfl rfl rfl (skipF hb42) rfl rfl ?_
        refine TO.skip rfl rfl rfl (skipF hb42) rfl rfl ?_
        refine TO.skip rfl rfl rfl (skipF hb42) rfl rfl ?_
        refine TO.skip rfl rfl rfl (skipF hb42) rfl rfl ?_
        refine TO.skip rfl rfl rfl (skipF hb42) rfl rfl ?_
        refine TO.s rfl rfl rfl (StepS.pickF rfl hb42 rfl) ?_
        exact TO.up1 6 0 rfl rfl rfl rfl
    refine TO.s rfl rfl rfl (StepS.move rfl) ?_
    obtain ⟨b48, hj49, hm⟩ := bind_some hm
    refine TO.mid1 6 41 (.bool b48) ?_ ?_
    · refine bcase (b43) (fun hb47 => ?_) (fun hb47 => ?_)
      · replace hj49 := cond_t hb47 hj49
        refine TO.sw rfl rfl rfl hb47 rfl rfl (StepS.fld rfl kfieldB_26_1_1_true) ?_
        refine TO.sw rfl rfl rfl hb47 rfl rfl (StepS.ldB rfl (Ent.at 4 rfl) kscalB_24_true rfl) ?_
        refine TO.sw rfl rfl rfl hb47 rfl rfl (StepS.fld rfl kfieldB_26_1_1_true) ?_
        refine TO.sw rfl rfl rfl hb47 rfl rfl (StepS.ldB rfl (Ent.at 3 rfl) kscalB_24_true rfl) ?_
        obtain ⟨r50, hc51, hj49⟩ := bind_some hj49
        refine TO.qw rfl rfl rfl hb47 rfl rfl (StepQ.call kcallB_18_true rfl rfl (fun _ st => C18 (OwnS.rd (Ent.at 6 rfl)) (OwnS.rd (Ent.at 1 rfl)) hc51 st)) ?_
        cases hj49
        refine TO.s rfl rfl rfl (StepS.pickT rfl hb47 rfl) ?_
        exact TO.up1 6 0 rfl rfl rfl rfl
      · replace hj49 := cond_f hb47 hj49
        cases hj49
        refine TO.skip rfl rfl rfl (skipF hb47) rfl rfl ?_
        refine TO.skip rfl rfl rfl (skipF hb47) rfl rfl ?_
        refine TO.skip rfl rfl rfl (skipF hb47) rfl rfl ?_
        refine TO.skip rfl rfl rfl (skipF hb47) rfl rfl ?_
        refine TO.skip rfl rfl rfl (skipF hb47) rfl rfl ?_
        refine TO.s rfl rfl rfl (StepS.pickF rfl hb47 rfl) ?_
        exact TO.up1 6 0 rfl rfl rfl rfl
    refine TO.s rfl rfl rfl (StepS.move rfl) ?_
    obtain ⟨b53, hj54, hm⟩ := bind_some hm
    refine TO.mid1 6 48 (.bool b53) ?_ ?_
    · refine bcase (b48) (fun hb52 => ?_) (fun hb52 => ?_)
      · replace hj54 := cond_t hb52 hj54
        refine TO.sw rfl rfl rfl hb52 rfl rfl (StepS.fld rfl kfieldB_26_2_2_true) ?_
        refine TO.sw rfl rfl rfl hb52 rfl rfl (StepS.ldB rfl (Ent.at 4 rfl) kscalB_24_true rfl) ?_
        refine TO.sw rfl rfl rfl hb52 rfl rfl (StepS.fld rfl kfieldB_26_2_2_true) ?_
        refine TO.sw rfl rfl rfl hb52 rfl rfl (StepS.ldB rfl (Ent.at 3 rfl) kscalB_24_true rfl) ?_
        obtain ⟨r55, hc56, hj54⟩ := bind_some hj54
        refine TO.qw rfl rfl rfl hb52 rfl rfl (StepQ.call kcallB_18_true rfl rfl (fun _ st => C18 (OwnS.rd (Ent.at 7 rfl)) (OwnS.rd (Ent.at 2 rfl)) hc56 st)) ?_
        cases hj54
        refine TO.s rfl rfl rfl (StepS.pickT rfl hb52 rfl) ?_
        exact TO.up1 6 0 rfl rfl rfl rfl
      · replace hj54 := cond_f hb52 hj54
        cases hj54
        refine TO.skip rfl rfl rfl (skipF hb52) rfl rfl ?_
        refine TO.skip rfl rfl rfl (skipF hb52) rfl rfl ?_
        refine TO.skip rfl rfl rfl (skipF hb52) rfl rfl ?_
        refine TO.skip rfl rfl rfl (skipF hb52) rfl rfl ?_
        refine TO.skip rfl rfl rfl (skipF hb52) rfl rfl ?_
        refine TO.s rfl rfl rfl (StepS.pickF rfl hb52 rfl) ?_
        exact TO.up1 6 0 rfl rfl rfl rfl
    refine TO.s rfl rfl rfl (StepS.assign rfl) ?_
    refine TO.code ?_
    cases hm
    refine TC.ret fun a w e s => ?_
    refine FRet.mk1 (P := Tryd.prog) (fn := Tryd.f9) (t := 4) e rfl rfl ?_
    exact ⟨rfl, s.mono fun _ => Sat.dropN 8⟩
end Go.Proofs.YtadfgohglcglcaaDoor
