/-
  The statement MergePlaysSaid: for every input the call of the Go function beaconry/beaconrylaw.MergePlays returns true, and each argument reads afterwards as it read before. No condition narrows the inputs.
-/
import Derived.Test.YthfkdepcnhhepaaRows
import Derived.WalkKit
import Derived.ProofKit
import Derived.Test.YthfkdepcnhhepaaBk6
import Derived.Test.YthfkdepcnhhepaaHW
import Derived.Test.YthfkdepcnhhepaaPWays
import Derived.Test.YthfkdepcnhhepaaPMergePlays

namespace Go.Proofs.Ythfkdepcnhhepaa
open Go Go.Bk Go.ChangeShapes Go.WideShapes Go.ChangeAt Go.RowKit
set_option linter.unusedVariables false
set_option linter.unusedSimpArgs false
theorem tkunderlying_3_some_int_i64 : Try.prog.underlying 3 = some (.int .i64) := by kernel_rfl
theorem tkunderlying_106_some_struct_fieldsOf_106 : Try.prog.underlying 106 = some (.struct (Try.prog.fieldsOf 106)) := by kernel_rfl
theorem tkcellsOf_106_4 : Try.prog.cellsOf 106 = 4 := by kernel_rfl
theorem tkfieldsOf_106_0_map_fun_f_f_type_f_offset_some_3_0 : ((Try.prog.fieldsOf 106)[0]?).map (fun f => (f.type, f.offset)) = some (3, 0) := by kernel_rfl
theorem tkcellsOf_3_1 : Try.prog.cellsOf 3 = 1 := by kernel_rfl
theorem tkfieldsOf_106_1_map_fun_f_f_type_f_offset_some_3_1 : ((Try.prog.fieldsOf 106)[1]?).map (fun f => (f.type, f.offset)) = some (3, 1) := by kernel_rfl
theorem tkfieldsOf_106_2_map_fun_f_f_type_f_offset_some_3_2 : ((Try.prog.fieldsOf 106)[2]?).map (fun f => (f.type, f.offset)) = some (3, 2) := by kernel_rfl
theorem tkfieldsOf_106_3_map_fun_f_f_type_f_offset_some_3_3 : ((Try.prog.fieldsOf 106)[3]?).map (fun f => (f.type, f.offset)) = some (3, 3) := by kernel_rfl
theorem tkunderlying_23_some_slice_106 : Try.prog.underlying 23 = some (.slice 106) := by kernel_rfl
theorem tksliceB_23_106_4_true : sliceB Try.prog 23 106 4 = true := by kernel_rfl
theorem tkunderlying_4_some_bool : Try.prog.underlying 4 = some .bool := by kernel_rfl
theorem tkownKnob_godebug_none : ownKnob Try.prog.godebug = none := by kernel_rfl
theorem tklaidOutB_true : laidOutB Try.prog = true := by kernel_rfl
theorem opens_106 {H : Type} {enc : TypeId × Value → H} {W : World} : Opens Try.prog W enc 106 cTiiii (fun y => (i64 y.1) ∧ (i64 y.2.1) ∧ (i64 y.2.2.1) ∧ (i64 y.2.2.2)) := fun n cs x h => by
  obtain ⟨xs, m, _, _, hl, hlen, hf⟩ := DataW.trod_struct tkunderlying_106_some_struct_fieldsOf_106 h
  rw [tkcellsOf_106_4] at hl
  obtain ⟨y0, e0, w0⟩ := field_open (i := 0) (opens_int tkunderlying_3_some_int_i64) hlen hf tkfieldsOf_106_0_map_fun_f_f_type_f_offset_some_3_0 tkcellsOf_3_1
  obtain ⟨y1, e1, w1⟩ := field_open (i := 1) (opens_int tkunderlying_3_some_int_i64) hlen hf tkfieldsOf_106_1_map_fun_f_f_type_f_offset_some_3_1 tkcellsOf_3_1
  obtain ⟨y2, e2, w2⟩ := field_open (i := 2) (opens_int tkunderlying_3_some_int_i64) hlen hf tkfieldsOf_106_2_map_fun_f_f_type_f_offset_some_3_2 tkcellsOf_3_1
  obtain ⟨y3, e3, w3⟩ := field_open (i := 3) (opens_int tkunderlying_3_some_int_i64) hlen hf tkfieldsOf_106_3_map_fun_f_f_type_f_offset_some_3_3 tkcellsOf_3_1
  clear hf h
  match cs, hl with
  | [c0, c1, c2, c3], _ =>
    simp [cI, cU, cB, cS] at e0
    simp [cI, cU, cB, cS] at e1
    simp [cI, cU, cB, cS] at e2
    simp [cI, cU, cB, cS] at e3
    exact ⟨(y0, y1, y2, y3), by simp [e0, e1, e2, e3], w0, w1, w2, w3⟩
set_option maxRecDepth 100000 in
theorem mergePlays_lifted (os : Os) (started : os.Started) (H : Type) (enc : TypeId × Value → H) :
    ReturnsInHanded Rows.mergePlaysRow.assume Try.checked os 10 .any (Rows.mergePlaysSpec.pre6 enc Try.prog Try.f10 Rows.mergePlaysRow.domain false) (Rows.mergePlaysSpec.post enc Try.prog Try.f10 false true false false) := by
  refine returnsInHanded_of_change (C := Try.checked) tkownKnob_godebug_none started (by kernel_rfl) Try.func10
    (ChangeSpec.witness6 (enc := enc) (C := Try.checked) false ⟨#[], #[.int .i64 0, .slice none 0 0], []⟩ 8 (by kernel_rfl) (by kernel_rfl) (by kernel_rfl) (by kernel_rfl)) ?_
  intro W base args ds gs before hval0 hW hcnd _
  have hval : ∀ (j : Nat) t v, Try.f10.params[j]? = some t → args[j]? = some v → Value.okWide Try.prog W .any base t v := hval0
  have hW' := hW
  obtain ⟨p, q, hA0, hV, rfl, hfz, hnd⟩ := hW
  have hA : DataW.TrodAll enc Try.prog W 0 (fun _ => true) true Try.f10.params.toList args.toList ds p := hA0
  rw [Try.params10] at hA hval
  obtain ⟨v0, vs0, d0, ds0, p0, q0, hargs, rfl, rfl, h0, r0⟩ := trodAll_cons hA
  obtain ⟨v1, vs1, d1, ds1, p1, q1, rfl, rfl, rfl, h1, r1⟩ := trodAll_cons r0
  obtain ⟨rfl, rfl, rfl⟩ := trodAll_nil r1
  obtain rfl : args = #[v0, v1] := by cases args; simp_all
  obtain ⟨rfl, rfl⟩ := trodVars_none hV
  have hh1 := h1
  have hh0 := h0
  obtain ⟨x0, rfl, rfl, rfl, wx0⟩ := open_int tkunderlying_3_some_int_i64 (hval 0 3 v0 rfl rfl) h0
  obtain ⟨x1, en1, ln1, wf1⟩ := open_rd tksliceB_23_106_4_true (by decide) (okWide_slice tkunderlying_23_some_slice_106 (hval 1 23 v1 rfl rfl)) h1 opens_106
  clear hA0 hval0
  refine (C10 en1 (law_MergePlays x0 (i64_of wx0) x1 ln1 wf1) (St.start W)).mono fun e W' ⟨he, hs⟩ => ?_
  subst he
  have bel := hs.below
  exact ⟨_, rfl, _, _, _, [], _, [], hW', trodAll_mk1 (shut_bool tkunderlying_4_some_bool _), (trodAll_cons_mk (trod_below tklaidOutB_true (by kernel_rfl) (of_decide_eq_true (by kernel_rfl)) hh0 bel) (trodAll_cons_mk (trod_below tklaidOutB_true (by kernel_rfl) (of_decide_eq_true (by kernel_rfl)) hh1 bel) trodAll_mk0)), rfl, bel.frame _, fun h => by cases h⟩

theorem mergePlays_holds : Rows.MergePlaysSaid :=
  OpenClaim.holds_of_wide 10 Try.f10 rfl rfl rfl rfl rfl rfl rfl ⟨rfl, rfl, rfl, rfl, rfl⟩ rfl rfl rfl rfl rfl (by kernel_rfl) Try.func10 (by kernel_rfl)
    (of_decide_eq_true (by kernel_rfl)) (by unfold Func.isWrapper; first | (rw [if_pos (by decide +kernel)]; kernel_rfl) | (rw [if_neg (by decide +kernel)]; exact ⟨rfl, rfl⟩))
    (fun os started H enc _ => mergePlays_lifted os started H enc)
#print axioms mergePlays_holds
end Go.Proofs.Ythfkdepcnhhepaa
