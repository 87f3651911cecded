/-
  The tied card KeepPlaysCardSaid: for every input the call of the Go function beaconry/beaconrylaw.KeepPlays returns true, and each argument reads afterwards as it read before. No condition narrows the inputs.
-/
import Derived.Test.YtadfgohglcglcaaDoorCards
import Derived.Test.YtadfgohglcglcaaDoorTie
import Derived.Lay
import Derived.LaidOnce
import Derived.SevenTiedAt
import Derived.LaidMore
import Derived.Stop.Joined
import Derived.WalkKit
import Derived.ProofKit
import Derived.Test.YtadfgohglcglcaaDoorBk40
import Derived.Test.YtadfgohglcglcaaDoorXW
import Derived.Test.YtadfgohglcglcaaDoorNW
import Derived.Test.YtadfgohglcglcaaDoorPKeepM

namespace Go.Proofs.YtadfgohglcglcaaDoor
open Go Go.Bk Go.ChangeShapes Go.WideShapes Go.ChangeAt Go.RowKit
set_option linter.unusedVariables false
set_option linter.unusedSimpArgs false
theorem tkunderlying_3_some_int_i64 : Tryd.prog.underlying 3 = some (.int .i64) := by kernel_rfl
theorem tkunderlying_9_some_string : Tryd.prog.underlying 9 = some .string := by kernel_rfl
theorem tkunderlying_45_some_struct_fieldsOf_45 : Tryd.prog.underlying 45 = some (.struct (Tryd.prog.fieldsOf 45)) := by kernel_rfl
theorem tkcellsOf_45_4 : Tryd.prog.cellsOf 45 = 4 := by kernel_rfl
theorem tkfieldsOf_45_0_map_fun_f_f_type_f_offset_some_3_0 : ((Tryd.prog.fieldsOf 45)[0]?).map (fun f => (f.type, f.offset)) = some (3, 0) := by kernel_rfl
theorem tkcellsOf_3_1 : Tryd.prog.cellsOf 3 = 1 := by kernel_rfl
theorem tkfieldsOf_45_1_map_fun_f_f_type_f_offset_some_9_1 : ((Tryd.prog.fieldsOf 45)[1]?).map (fun f => (f.type, f.offset)) = some (9, 1) := by kernel_rfl
theorem tkcellsOf_9_1 : Tryd.prog.cellsOf 9 = 1 := by kernel_rfl
theorem tkfieldsOf_45_2_map_fun_f_f_type_f_offset_some_9_2 : ((Tryd.prog.fieldsOf 45)[2]?).map (fun f => (f.type, f.offset)) = some (9, 2) := by kernel_rfl
theorem tkfieldsOf_45_3_map_fun_f_f_type_f_offset_some_3_3 : ((Tryd.prog.fieldsOf 45)[3]?).map (fun f => (f.type, f.offset)) = some (3, 3) := by kernel_rfl
theorem tkunderlying_47_some_struct_fieldsOf_47 : Tryd.prog.underlying 47 = some (.struct (Tryd.prog.fieldsOf 47)) := by kernel_rfl
theorem tkcellsOf_47_7 : Tryd.prog.cellsOf 47 = 7 := by kernel_rfl
theorem tkfieldsOf_47_0_map_fun_f_f_type_f_offset_some_3_0 : ((Tryd.prog.fieldsOf 47)[0]?).map (fun f => (f.type, f.offset)) = some (3, 0) := by kernel_rfl
theorem tkfieldsOf_47_1_map_fun_f_f_type_f_offset_some_3_1 : ((Tryd.prog.fieldsOf 47)[1]?).map (fun f => (f.type, f.offset)) = some (3, 1) := by kernel_rfl
theorem tkfieldsOf_47_2_map_fun_f_f_type_f_offset_some_3_2 : ((Tryd.prog.fieldsOf 47)[2]?).map (fun f => (f.type, f.offset)) = some (3, 2) := by kernel_rfl
theorem tkfieldsOf_47_3_map_fun_f_f_type_f_offset_some_45_3 : ((Tryd.prog.fieldsOf 47)[3]?).map (fun f => (f.type, f.offset)) = some (45, 3) := by kernel_rfl
theorem tkunderlying_22_some_slice_47 : Tryd.prog.underlying 22 = some (.slice 47) := by kernel_rfl
theorem tksliceB_22_47_7_true : sliceB Tryd.prog 22 47 7 = true := by kernel_rfl
theorem tkbytesOf_47_72 : Tryd.prog.bytesOf 47 = 72 := by kernel_rfl
theorem tkunderlying_4_some_bool : Tryd.prog.underlying 4 = some .bool := by kernel_rfl
theorem tkownKnob_godebug_none : ownKnob Tryd.prog.godebug = none := by kernel_rfl
theorem tklaidOutB_true : laidOutB Tryd.prog = true := by kernel_rfl
theorem opens_45 {H : Type} {enc : TypeId × Value → H} {W : World} : Opens Tryd.prog W enc 45 cTissi (fun y => (i64 y.1) ∧ (y.2.1.size ≤ maxLen) ∧ (y.2.2.1.size ≤ maxLen) ∧ (i64 y.2.2.2)) := fun n cs x h => by
  obtain ⟨xs, m, _, _, hl, hlen, hf⟩ := DataW.trod_struct tkunderlying_45_some_struct_fieldsOf_45 h
  rw [tkcellsOf_45_4] at hl
  obtain ⟨y0, e0, w0⟩ := field_open (i := 0) (opens_int tkunderlying_3_some_int_i64) hlen hf tkfieldsOf_45_0_map_fun_f_f_type_f_offset_some_3_0 tkcellsOf_3_1
  obtain ⟨y1, e1, w1⟩ := field_open (i := 1) (opens_str tkunderlying_9_some_string) hlen hf tkfieldsOf_45_1_map_fun_f_f_type_f_offset_some_9_1 tkcellsOf_9_1
  obtain ⟨y2, e2, w2⟩ := field_open (i := 2) (opens_str tkunderlying_9_some_string) hlen hf tkfieldsOf_45_2_map_fun_f_f_type_f_offset_some_9_2 tkcellsOf_9_1
  obtain ⟨y3, e3, w3⟩ := field_open (i := 3) (opens_int tkunderlying_3_some_int_i64) hlen hf tkfieldsOf_45_3_map_fun_f_f_type_f_offset_some_3_3 tkcellsOf_3_1
  clear hf h
  match cs, hl with
  | [c0, c1, c2, c3], _ =>
    simp [cI, cU, cB, cS] at e0
    simp [cI, cU, cB, cS] at e1
    simp [cI, cU, cB, cS] at e2
    simp [cI, cU, cB, cS] at e3
    exact ⟨(y0, y1, y2, y3), by simp [e0, e1, e2, e3], w0, w1, w2, w3⟩
theorem opens_47 {H : Type} {enc : TypeId × Value → H} {W : World} : Opens Tryd.prog W enc 47 cTiiiissi (fun y => (i64 y.1) ∧ (i64 y.2.1) ∧ (i64 y.2.2.1) ∧ ((i64 y.2.2.2.1) ∧ (y.2.2.2.2.1.size ≤ maxLen) ∧ (y.2.2.2.2.2.1.size ≤ maxLen) ∧ (i64 y.2.2.2.2.2.2))) := fun n cs x h => by
  obtain ⟨xs, m, _, _, hl, hlen, hf⟩ := DataW.trod_struct tkunderlying_47_some_struct_fieldsOf_47 h
  rw [tkcellsOf_47_7] at hl
  obtain ⟨y0, e0, w0⟩ := field_open (i := 0) (opens_int tkunderlying_3_some_int_i64) hlen hf tkfieldsOf_47_0_map_fun_f_f_type_f_offset_some_3_0 tkcellsOf_3_1
  obtain ⟨y1, e1, w1⟩ := field_open (i := 1) (opens_int tkunderlying_3_some_int_i64) hlen hf tkfieldsOf_47_1_map_fun_f_f_type_f_offset_some_3_1 tkcellsOf_3_1
  obtain ⟨y2, e2, w2⟩ := field_open (i := 2) (opens_int tkunderlying_3_some_int_i64) hlen hf tkfieldsOf_47_2_map_fun_f_f_type_f_offset_some_3_2 tkcellsOf_3_1
  obtain ⟨y3, e3, w3⟩ := field_open (i := 3) opens_45 hlen hf tkfieldsOf_47_3_map_fun_f_f_type_f_offset_some_45_3 tkcellsOf_45_4
  clear hf h
  match cs, hl with
  | [c0, c1, c2, c3, c4, c5, c6], _ =>
    simp [cI, cU, cB, cS] at e0
    simp [cI, cU, cB, cS] at e1
    simp [cI, cU, cB, cS] at e2
    simp [cI, cU, cB, cS] at e3
    exact ⟨(y0, y1, y2, y3), by simp [e0, e1, e2, e3], w0, w1, w2, w3⟩
set_option maxRecDepth 100000 in
theorem keepPlays_lifted (os : Os) (started : os.Started) (H : Type) (enc : TypeId × Value → H) :
    ReturnsInHanded Rows.keepPlaysRow.assume Tryd.checked os 9 .any (fun w args => (Rows.keepPlaysSpec.pre enc Tryd.prog Tryd.f9 Rows.keepPlaysRow.domain false w args ∧ laidMetH Tryd.prog Rows.keepPlaysRow.laid w) ∧ sizedMet enc Tryd.prog Tryd.f9 (OpenSpec.ofChange Rows.keepPlaysSpec) false w args) (Rows.keepPlaysSpec.post enc Tryd.prog Tryd.f9 false true false false) := by
  refine returnsInHanded_of_change_and (C := Tryd.checked) (X := fun w _ => laidMetH Tryd.prog Rows.keepPlaysRow.laid w) (fun _ _ _ hh h => h.of_heap hh) tkownKnob_godebug_none started (by kernel_rfl) Tryd.func9
    (ChangeSpec.witness_shaped (enc := enc) (C := Tryd.checked) (os := os) (X := fun w _ => laidMetH Tryd.prog Rows.keepPlaysRow.laid w) false (World.laidAll Tryd.prog os Rows.keepPlaysRow.laid) #[.int .i64 0, .slice none 0 0] 8 (World.laidAll_os _ _ _)
      (World.shaped_of_ZipB (by kernel_rfl) (by kernel_rfl)) (by kernel_rfl) (by kernel_rfl) (by kernel_rfl)
      (by rw [MakeChecks.laidMetH_plain _ _ _ (by kernel_rfl)]; exact laidMet_laidAll _ (by kernel_rfl) (by kernel_rfl))) ?_
  intro W base args ds gs before hval0 hW hcnd hwt hL _
  have hval : ∀ (j : Nat) t v, Tryd.f9.params[j]? = some t → args[j]? = some v → Value.okWide Tryd.prog W .any base t v := hval0
  have hW' := hW
  obtain ⟨p, q, hA0, hV, rfl, hfz, hnd⟩ := hW
  have hA : DataW.TrodAll enc Tryd.prog W 0 (fun _ => true) true Tryd.f9.params.toList args.toList ds p := hA0
  rw [Tryd.params9] at hA hval
  obtain ⟨v0, vs0, d0, ds0, p0, q0, hargs, rfl, rfl, h0, r0⟩ := trodAll_cons hA
  obtain ⟨v1, vs1, d1, ds1, p1, q1, rfl, rfl, rfl, h1, r1⟩ := trodAll_cons r0
  obtain ⟨rfl, rfl, rfl⟩ := trodAll_nil r1
  obtain rfl : args = #[v0, v1] := by cases args; simp_all
  obtain ⟨rfl, rfl⟩ := trodVars_none hV
  have hh1 := h1
  have hh0 := h0
  obtain ⟨x0, rfl, rfl, rfl, wx0⟩ := open_int tkunderlying_3_some_int_i64 (hval 0 3 v0 rfl rfl) h0
  obtain ⟨x1, en1, ln1, wf1⟩ := open_rd tksliceB_22_47_7_true (by decide) (okWide_slice tkunderlying_22_some_slice_47 (hval 1 22 v1 rfl rfl)) h1 opens_47
  have lb1 := open_len tkunderlying_22_some_slice_47 hh1 (fun n hn => by simpa using List.all_eq_true.1 hwt n (DataW.weights_mem_each (j := 1) (t := 22) rfl rfl n hn)) en1 tkbytesOf_47_72 (by decide)
  clear hA0 hval0
  refine (C9 en1 (law_KeepPlays x0 (i64_of wx0) x1 lb1 wf1) (St.start W)).mono fun e W' ⟨he, hs⟩ => ?_
  subst he
  have bel := hs.below
  exact ⟨_, rfl, _, _, _, [], _, [], hW', trodAll_mk1 (shut_bool tkunderlying_4_some_bool _), (trodAll_cons_mk (trod_below tklaidOutB_true (by kernel_rfl) (of_decide_eq_true (by kernel_rfl)) hh0 bel) (trodAll_cons_mk (trod_below tklaidOutB_true (by kernel_rfl) (of_decide_eq_true (by kernel_rfl)) hh1 bel) trodAll_mk0)), rfl, bel.frame _, fun h => by cases h⟩

theorem keepPlays_row : Rows.KeepPlaysSaid :=
  OpenClaim.holds_of_wide 9 Tryd.f9 rfl rfl rfl rfl rfl rfl rfl ⟨rfl, rfl, rfl, rfl, rfl⟩ rfl rfl rfl rfl rfl (by kernel_rfl) Tryd.func9 (by kernel_rfl)
    (of_decide_eq_true (by kernel_rfl)) (by unfold Func.isWrapper; first | (rw [if_pos (by decide +kernel)]; kernel_rfl) | (rw [if_neg (by decide +kernel)]; exact ⟨rfl, rfl⟩))
    (fun os started H enc _ => keepPlays_lifted os started H enc)
theorem keepPlays_holds : Rows.KeepPlaysCardSaid :=
  Claim7.holds_tied_plain_at .later [] [.data, .pinned] true (true, "0889df3315a1edfbd6ae7a38e6e38c776aedd44776af9dd68cd7c9e4c0d4b7b5") false keepPlays_row (fun _ h => by cases h) (by kernel_rfl) (fun _ h => by cases h) keepPlays_row_tie rfl ⟨rfl, rfl⟩ (by kernel_rfl) rfl
    (fun f fn hf hfn => by
      obtain rfl : f = 9 := Option.some.inj ((show Tryd.prog.funcNamed "beaconry/beaconrylaw.KeepPlays" = some 9 by kernel_rfl).symm.trans hf) |>.symm
      obtain rfl : fn = Tryd.f9 := (Option.some.inj (Tryd.func9.symm.trans hfn)).symm
      exact ⟨by kernel_rfl, fun j t ht => by
        rw [Tryd.params9] at ht
        have hm : t ∈ [3, 22] := by simpa using Array.mem_of_getElem? ht
        have hall : ([3, 22].all fun u => !Tryd.prog.wantsStandIn u) = true := by kernel_rfl
        exact (show Tryd.prog.wantsStandIn t = false by simpa using List.all_eq_true.1 hall t hm)⟩)
    (by kernel_rfl)
#print axioms keepPlays_holds
end Go.Proofs.YtadfgohglcglcaaDoor
