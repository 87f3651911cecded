/-
  The statement LineOrdersSaid: for every input the call of the Go function beaconry/beaconrylaw.LineOrders returns true, and each argument reads afterwards as it read before. No condition narrows the inputs.
-/
import Derived.Test.YtmlfflaelbofmaaRows
import Derived.WalkKit
import Derived.ProofKit
import Derived.Test.YtmlfflaelbofmaaBk6
import Derived.Test.YtmlfflaelbofmaaLM
import Derived.Test.YtmlfflaelbofmaaLW
import Derived.Test.YtmlfflaelbofmaaPLine

namespace Go.Proofs.Ytmlfflaelbofmaa
open Go Go.Bk Go.ChangeShapes Go.WideShapes Go.ChangeAt Go.RowKit
set_option linter.unusedVariables false
set_option linter.unusedSimpArgs false
theorem tkunderlying_3_some_int_i64 : Try.prog.underlying 3 = some (.int .i64) := by kernel_rfl
theorem tkunderlying_4_some_bool : Try.prog.underlying 4 = some .bool := by kernel_rfl
theorem tkunderlying_62_some_struct_fieldsOf_62 : Try.prog.underlying 62 = some (.struct (Try.prog.fieldsOf 62)) := by kernel_rfl
theorem tkcellsOf_62_5 : Try.prog.cellsOf 62 = 5 := by kernel_rfl
theorem tkfieldsOf_62_0_map_fun_f_f_type_f_offset_some_3_0 : ((Try.prog.fieldsOf 62)[0]?).map (fun f => (f.type, f.offset)) = some (3, 0) := by kernel_rfl
theorem tkcellsOf_3_1 : Try.prog.cellsOf 3 = 1 := by kernel_rfl
theorem tkfieldsOf_62_1_map_fun_f_f_type_f_offset_some_3_1 : ((Try.prog.fieldsOf 62)[1]?).map (fun f => (f.type, f.offset)) = some (3, 1) := by kernel_rfl
theorem tkfieldsOf_62_2_map_fun_f_f_type_f_offset_some_3_2 : ((Try.prog.fieldsOf 62)[2]?).map (fun f => (f.type, f.offset)) = some (3, 2) := by kernel_rfl
theorem tkfieldsOf_62_3_map_fun_f_f_type_f_offset_some_4_3 : ((Try.prog.fieldsOf 62)[3]?).map (fun f => (f.type, f.offset)) = some (4, 3) := by kernel_rfl
theorem tkcellsOf_4_1 : Try.prog.cellsOf 4 = 1 := by kernel_rfl
theorem tkfieldsOf_62_4_map_fun_f_f_type_f_offset_some_3_4 : ((Try.prog.fieldsOf 62)[4]?).map (fun f => (f.type, f.offset)) = some (3, 4) := by kernel_rfl
theorem tkunderlying_22_some_slice_62 : Try.prog.underlying 22 = some (.slice 62) := by kernel_rfl
theorem tksliceB_22_62_5_true : sliceB Try.prog 22 62 5 = true := by kernel_rfl
theorem tkownKnob_godebug_none : ownKnob Try.prog.godebug = none := by kernel_rfl
theorem tklaidOutB_true : laidOutB Try.prog = true := by kernel_rfl
theorem opens_62 {H : Type} {enc : TypeId × Value → H} {W : World} : Opens Try.prog W enc 62 cTiiibi (fun y => (i64 y.1) ∧ (i64 y.2.1) ∧ (i64 y.2.2.1) ∧ (True) ∧ (i64 y.2.2.2.2)) := fun n cs x h => by
  obtain ⟨xs, m, _, _, hl, hlen, hf⟩ := DataW.trod_struct tkunderlying_62_some_struct_fieldsOf_62 h
  rw [tkcellsOf_62_5] at hl
  obtain ⟨y0, e0, w0⟩ := field_open (i := 0) (opens_int tkunderlying_3_some_int_i64) hlen hf tkfieldsOf_62_0_map_fun_f_f_type_f_offset_some_3_0 tkcellsOf_3_1
  obtain ⟨y1, e1, w1⟩ := field_open (i := 1) (opens_int tkunderlying_3_some_int_i64) hlen hf tkfieldsOf_62_1_map_fun_f_f_type_f_offset_some_3_1 tkcellsOf_3_1
  obtain ⟨y2, e2, w2⟩ := field_open (i := 2) (opens_int tkunderlying_3_some_int_i64) hlen hf tkfieldsOf_62_2_map_fun_f_f_type_f_offset_some_3_2 tkcellsOf_3_1
  obtain ⟨y3, e3, w3⟩ := field_open (i := 3) (opens_bool tkunderlying_4_some_bool) hlen hf tkfieldsOf_62_3_map_fun_f_f_type_f_offset_some_4_3 tkcellsOf_4_1
  obtain ⟨y4, e4, w4⟩ := field_open (i := 4) (opens_int tkunderlying_3_some_int_i64) hlen hf tkfieldsOf_62_4_map_fun_f_f_type_f_offset_some_3_4 tkcellsOf_3_1
  clear hf h
  match cs, hl with
  | [c0, c1, c2, c3, c4], _ =>
    simp [cI, cU, cB, cS] at e0
    simp [cI, cU, cB, cS] at e1
    simp [cI, cU, cB, cS] at e2
    simp [cI, cU, cB, cS] at e3
    simp [cI, cU, cB, cS] at e4
    exact ⟨(y0, y1, y2, y3, y4), by simp [e0, e1, e2, e3, e4], w0, w1, w2, w3, w4⟩
set_option maxRecDepth 100000 in
theorem lineOrders_lifted (os : Os) (started : os.Started) (H : Type) (enc : TypeId × Value → H) :
    ReturnsInHanded Rows.lineOrdersRow.assume Try.checked os 6 .any (Rows.lineOrdersSpec.pre6 enc Try.prog Try.f6 Rows.lineOrdersRow.domain false) (Rows.lineOrdersSpec.post enc Try.prog Try.f6 false true false false) := by
  refine returnsInHanded_of_change (C := Try.checked) tkownKnob_godebug_none started (by kernel_rfl) Try.func6
    (ChangeSpec.witness6 (enc := enc) (C := Try.checked) false ⟨#[], #[.slice none 0 0], []⟩ 8 (by kernel_rfl) (by kernel_rfl) (by kernel_rfl) (by kernel_rfl)) ?_
  intro W base args ds gs before hval0 hW hcnd _
  have hval : ∀ (j : Nat) t v, Try.f6.params[j]? = some t → args[j]? = some v → Value.okWide Try.prog W .any base t v := hval0
  have hW' := hW
  obtain ⟨p, q, hA0, hV, rfl, hfz, hnd⟩ := hW
  have hA : DataW.TrodAll enc Try.prog W 0 (fun _ => true) true Try.f6.params.toList args.toList ds p := hA0
  rw [Try.params6] at hA hval
  obtain ⟨v0, vs0, d0, ds0, p0, q0, hargs, rfl, rfl, h0, r0⟩ := trodAll_cons hA
  obtain ⟨rfl, rfl, rfl⟩ := trodAll_nil r0
  obtain rfl : args = #[v0] := by cases args; simp_all
  obtain ⟨rfl, rfl⟩ := trodVars_none hV
  have hh0 := h0
  obtain ⟨x0, en0, ln0, wf0⟩ := open_rd tksliceB_22_62_5_true (by decide) (okWide_slice tkunderlying_22_some_slice_62 (hval 0 22 v0 rfl rfl)) h0 opens_62
  clear hA0 hval0
  refine (C6 en0 (law_LineOrders x0 ln0 wf0) (St.start W)).mono fun e W' ⟨he, hs⟩ => ?_
  subst he
  have bel := hs.below
  exact ⟨_, rfl, _, _, _, [], _, [], hW', trodAll_mk1 (shut_bool tkunderlying_4_some_bool _), (trodAll_cons_mk (trod_below tklaidOutB_true (by kernel_rfl) (of_decide_eq_true (by kernel_rfl)) hh0 bel) trodAll_mk0), rfl, bel.frame _, fun h => by cases h⟩

theorem lineOrders_holds : Rows.LineOrdersSaid :=
  OpenClaim.holds_of_wide 6 Try.f6 rfl rfl rfl rfl rfl rfl rfl ⟨rfl, rfl, rfl, rfl, rfl⟩ rfl rfl rfl rfl rfl (by kernel_rfl) Try.func6 (by kernel_rfl)
    (of_decide_eq_true (by kernel_rfl)) (by unfold Func.isWrapper; first | (rw [if_pos (by decide +kernel)]; kernel_rfl) | (rw [if_neg (by decide +kernel)]; exact ⟨rfl, rfl⟩))
    (fun os started H enc _ => lineOrders_lifted os started H enc)
#print axioms lineOrders_holds
end Go.Proofs.Ytmlfflaelbofmaa
