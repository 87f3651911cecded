/-
  The statement TickOrdersSaid: for every input the call of the Go function beaconry/beaconrylaw.TickOrders returns true, and each argument reads afterwards as it read before. No condition narrows the inputs.
-/
import Derived.Test.YtmfidlalejdikaaRows
import Derived.WalkKit
import Derived.ProofKit
import Derived.Test.YtmfidlalejdikaaBk6
import Derived.Test.YtmfidlalejdikaaTW
import Derived.Test.YtmfidlalejdikaaPTickOrders

namespace Go.Proofs.Ytmfidlalejdikaa
open Go Go.Bk Go.ChangeShapes Go.WideShapes Go.ChangeAt Go.RowKit
set_option linter.unusedVariables false
set_option linter.unusedSimpArgs false
theorem tkunderlying_3_some_int_i64 : Try.prog.underlying 3 = some (.int .i64) := by kernel_rfl
theorem tkunderlying_58_some_struct_fieldsOf_58 : Try.prog.underlying 58 = some (.struct (Try.prog.fieldsOf 58)) := by kernel_rfl
theorem tkcellsOf_58_3 : Try.prog.cellsOf 58 = 3 := by kernel_rfl
theorem tkfieldsOf_58_0_map_fun_f_f_type_f_offset_some_3_0 : ((Try.prog.fieldsOf 58)[0]?).map (fun f => (f.type, f.offset)) = some (3, 0) := by kernel_rfl
theorem tkcellsOf_3_1 : Try.prog.cellsOf 3 = 1 := by kernel_rfl
theorem tkfieldsOf_58_1_map_fun_f_f_type_f_offset_some_3_1 : ((Try.prog.fieldsOf 58)[1]?).map (fun f => (f.type, f.offset)) = some (3, 1) := by kernel_rfl
theorem tkfieldsOf_58_2_map_fun_f_f_type_f_offset_some_3_2 : ((Try.prog.fieldsOf 58)[2]?).map (fun f => (f.type, f.offset)) = some (3, 2) := by kernel_rfl
theorem tkunderlying_22_some_slice_58 : Try.prog.underlying 22 = some (.slice 58) := by kernel_rfl
theorem tksliceB_22_58_3_true : sliceB Try.prog 22 58 3 = true := by kernel_rfl
theorem tkunderlying_4_some_bool : Try.prog.underlying 4 = some .bool := by kernel_rfl
theorem tkownKnob_godebug_none : ownKnob Try.prog.godebug = none := by kernel_rfl
theorem tklaidOutB_true : laidOutB Try.prog = true := by kernel_rfl
theorem opens_58 {H : Type} {enc : TypeId × Value → H} {W : World} : Opens Try.prog W enc 58 cTiii (fun y => (i64 y.1) ∧ (i64 y.2.1) ∧ (i64 y.2.2)) := fun n cs x h => by
  obtain ⟨xs, m, _, _, hl, hlen, hf⟩ := DataW.trod_struct tkunderlying_58_some_struct_fieldsOf_58 h
  rw [tkcellsOf_58_3] at hl
  obtain ⟨y0, e0, w0⟩ := field_open (i := 0) (opens_int tkunderlying_3_some_int_i64) hlen hf tkfieldsOf_58_0_map_fun_f_f_type_f_offset_some_3_0 tkcellsOf_3_1
  obtain ⟨y1, e1, w1⟩ := field_open (i := 1) (opens_int tkunderlying_3_some_int_i64) hlen hf tkfieldsOf_58_1_map_fun_f_f_type_f_offset_some_3_1 tkcellsOf_3_1
  obtain ⟨y2, e2, w2⟩ := field_open (i := 2) (opens_int tkunderlying_3_some_int_i64) hlen hf tkfieldsOf_58_2_map_fun_f_f_type_f_offset_some_3_2 tkcellsOf_3_1
  clear hf h
  match cs, hl with
  | [c0, c1, c2], _ =>
    simp [cI, cU, cB, cS] at e0
    simp [cI, cU, cB, cS] at e1
    simp [cI, cU, cB, cS] at e2
    exact ⟨(y0, y1, y2), by simp [e0, e1, e2], w0, w1, w2⟩
set_option maxRecDepth 100000 in
theorem tickOrders_lifted (os : Os) (started : os.Started) (H : Type) (enc : TypeId × Value → H) :
    ReturnsInHanded Rows.tickOrdersRow.assume Try.checked os 13 .any (Rows.tickOrdersSpec.pre6 enc Try.prog Try.f13 Rows.tickOrdersRow.domain false) (Rows.tickOrdersSpec.post enc Try.prog Try.f13 false true false false) := by
  refine returnsInHanded_of_change (C := Try.checked) tkownKnob_godebug_none started (by kernel_rfl) Try.func13
    (ChangeSpec.witness6 (enc := enc) (C := Try.checked) false ⟨#[], #[.int .i64 0, .slice none 0 0], []⟩ 8 (by kernel_rfl) (by kernel_rfl) (by kernel_rfl) (by kernel_rfl)) ?_
  intro W base args ds gs before hval0 hW hcnd _
  have hval : ∀ (j : Nat) t v, Try.f13.params[j]? = some t → args[j]? = some v → Value.okWide Try.prog W .any base t v := hval0
  have hW' := hW
  obtain ⟨p, q, hA0, hV, rfl, hfz, hnd⟩ := hW
  have hA : DataW.TrodAll enc Try.prog W 0 (fun _ => true) true Try.f13.params.toList args.toList ds p := hA0
  rw [Try.params13] at hA hval
  obtain ⟨v0, vs0, d0, ds0, p0, q0, hargs, rfl, rfl, h0, r0⟩ := trodAll_cons hA
  obtain ⟨v1, vs1, d1, ds1, p1, q1, rfl, rfl, rfl, h1, r1⟩ := trodAll_cons r0
  obtain ⟨rfl, rfl, rfl⟩ := trodAll_nil r1
  obtain rfl : args = #[v0, v1] := by cases args; simp_all
  obtain ⟨rfl, rfl⟩ := trodVars_none hV
  have hh1 := h1
  have hh0 := h0
  obtain ⟨x0, rfl, rfl, rfl, wx0⟩ := open_int tkunderlying_3_some_int_i64 (hval 0 3 v0 rfl rfl) h0
  obtain ⟨x1, en1, ln1, wf1⟩ := open_rd tksliceB_22_58_3_true (by decide) (okWide_slice tkunderlying_22_some_slice_58 (hval 1 22 v1 rfl rfl)) h1 opens_58
  clear hA0 hval0
  refine (C13 en1 (law_TickOrders x0 (i64_of wx0) x1 ln1 wf1) (St.start W)).mono fun e W' ⟨he, hs⟩ => ?_
  subst he
  have bel := hs.below
  exact ⟨_, rfl, _, _, _, [], _, [], hW', trodAll_mk1 (shut_bool tkunderlying_4_some_bool _), (trodAll_cons_mk (trod_below tklaidOutB_true (by kernel_rfl) (of_decide_eq_true (by kernel_rfl)) hh0 bel) (trodAll_cons_mk (trod_below tklaidOutB_true (by kernel_rfl) (of_decide_eq_true (by kernel_rfl)) hh1 bel) trodAll_mk0)), rfl, bel.frame _, fun h => by cases h⟩

theorem tickOrders_holds : Rows.TickOrdersSaid :=
  OpenClaim.holds_of_wide 13 Try.f13 rfl rfl rfl rfl rfl rfl rfl ⟨rfl, rfl, rfl, rfl, rfl⟩ rfl rfl rfl rfl rfl (by kernel_rfl) Try.func13 (by kernel_rfl)
    (of_decide_eq_true (by kernel_rfl)) (by unfold Func.isWrapper; first | (rw [if_pos (by decide +kernel)]; kernel_rfl) | (rw [if_neg (by decide +kernel)]; exact ⟨rfl, rfl⟩))
    (fun os started H enc _ => tickOrders_lifted os started H enc)
#print axioms tickOrders_holds
end Go.Proofs.Ytmfidlalejdikaa
