/-
  The statement EchoPlaysSaid: for every input the call of the Go function beaconry/beaconrylaw.EchoPlays returns true, and each argument reads afterwards as it read before. No condition narrows the inputs.
-/
import Derived.Test.YtpeijfboikfcjaaRows
import Derived.WalkKit
import Derived.ProofKit
import Derived.Test.YtpeijfboikfcjaaBk6
import Derived.Test.YtpeijfboikfcjaaBW
import Derived.Test.YtpeijfboikfcjaaPEcho3

namespace Go.Proofs.Ytpeijfboikfcjaa
open Go Go.Bk Go.ChangeShapes Go.WideShapes Go.ChangeAt Go.RowKit
set_option linter.unusedVariables false
set_option linter.unusedSimpArgs false
theorem tkunderlying_3_some_int_i64 : Try.prog.underlying 3 = some (.int .i64) := by kernel_rfl
theorem tkunderlying_42_some_array_2_3 : Try.prog.underlying 42 = some (.array 2 3) := by kernel_rfl
theorem tkcellsOf_42_2 : Try.prog.cellsOf 42 = 2 := by kernel_rfl
theorem tkcellsOf_3_1 : Try.prog.cellsOf 3 = 1 := by kernel_rfl
theorem tkunderlying_22_some_slice_42 : Try.prog.underlying 22 = some (.slice 42) := by kernel_rfl
theorem tksliceB_22_42_2_true : sliceB Try.prog 22 42 2 = true := by kernel_rfl
theorem tkunderlying_23_some_slice_3 : Try.prog.underlying 23 = some (.slice 3) := by kernel_rfl
theorem tksliceB_23_3_1_true : sliceB Try.prog 23 3 1 = true := by kernel_rfl
theorem tkunderlying_4_some_bool : Try.prog.underlying 4 = some .bool := by kernel_rfl
theorem tkownKnob_godebug_none : ownKnob Try.prog.godebug = none := by kernel_rfl
theorem tklaidOutB_true : laidOutB Try.prog = true := by kernel_rfl
theorem opens_42 {H : Type} {enc : TypeId × Value → H} {W : World} : Opens Try.prog W enc 42 cTii (fun y => (i64 y.1) ∧ (i64 y.2)) := fun n cs x h => by
  obtain ⟨xs, m, _, _, hl, hlen, hel⟩ := DataW.trod_array tkunderlying_42_some_array_2_3 h
  rw [tkcellsOf_42_2] at hl
  obtain ⟨y0, e0, w0⟩ := elem_open (i := 0) (o := 0) (opens_int tkunderlying_3_some_int_i64) hlen hel (by decide) tkcellsOf_3_1 rfl
  obtain ⟨y1, e1, w1⟩ := elem_open (i := 1) (o := 1) (opens_int tkunderlying_3_some_int_i64) hlen hel (by decide) tkcellsOf_3_1 rfl
  clear hel h
  match cs, hl with
  | [c0, c1], _ =>
    simp [cI, cU, cB, cS] at e0
    simp [cI, cU, cB, cS] at e1
    exact ⟨(y0, y1), by simp [e0, e1], ⟨w0, w1⟩⟩
set_option maxRecDepth 100000 in
theorem echoPlays_lifted (os : Os) (started : os.Started) (H : Type) (enc : TypeId × Value → H) :
    ReturnsInHanded Rows.echoPlaysRow.assume Try.checked os 3 .any (Rows.echoPlaysSpec.pre6 enc Try.prog Try.f3 Rows.echoPlaysRow.domain false) (Rows.echoPlaysSpec.post enc Try.prog Try.f3 false true false false) := by
  refine returnsInHanded_of_change (C := Try.checked) tkownKnob_godebug_none started (by kernel_rfl) Try.func3
    (ChangeSpec.witness6 (enc := enc) (C := Try.checked) false ⟨#[], #[.int .i64 0, .slice none 0 0, .int .i64 0, .slice none 0 0], []⟩ 8 (by kernel_rfl) (by kernel_rfl) (by kernel_rfl) (by kernel_rfl)) ?_
  intro W base args ds gs before hval0 hW hcnd _
  have hval : ∀ (j : Nat) t v, Try.f3.params[j]? = some t → args[j]? = some v → Value.okWide Try.prog W .any base t v := hval0
  have hW' := hW
  obtain ⟨p, q, hA0, hV, rfl, hfz, hnd⟩ := hW
  have hA : DataW.TrodAll enc Try.prog W 0 (fun _ => true) true Try.f3.params.toList args.toList ds p := hA0
  rw [Try.params3] at hA hval
  obtain ⟨v0, vs0, d0, ds0, p0, q0, hargs, rfl, rfl, h0, r0⟩ := trodAll_cons hA
  obtain ⟨v1, vs1, d1, ds1, p1, q1, rfl, rfl, rfl, h1, r1⟩ := trodAll_cons r0
  obtain ⟨v2, vs2, d2, ds2, p2, q2, rfl, rfl, rfl, h2, r2⟩ := trodAll_cons r1
  obtain ⟨v3, vs3, d3, ds3, p3, q3, rfl, rfl, rfl, h3, r3⟩ := trodAll_cons r2
  obtain ⟨rfl, rfl, rfl⟩ := trodAll_nil r3
  obtain rfl : args = #[v0, v1, v2, v3] := by cases args; simp_all
  obtain ⟨rfl, rfl⟩ := trodVars_none hV
  have hh1 := h1
  have hh3 := h3
  have hh0 := h0
  obtain ⟨x0, rfl, rfl, rfl, wx0⟩ := open_int tkunderlying_3_some_int_i64 (hval 0 3 v0 rfl rfl) h0
  obtain ⟨x1, en1, ln1, wf1⟩ := open_rd tksliceB_22_42_2_true (by decide) (okWide_slice tkunderlying_22_some_slice_42 (hval 1 22 v1 rfl rfl)) h1 opens_42
  have hh2 := h2
  obtain ⟨x2, rfl, rfl, rfl, wx2⟩ := open_int tkunderlying_3_some_int_i64 (hval 2 3 v2 rfl rfl) h2
  obtain ⟨x3, en3, ln3, wf3⟩ := open_rd tksliceB_23_3_1_true (by decide) (okWide_slice tkunderlying_23_some_slice_3 (hval 3 23 v3 rfl rfl)) h3 (opens_int tkunderlying_3_some_int_i64)
  clear hA0 hval0
  refine (C3 en1 en3 (law_EchoPlays x0 (i64_of wx0) x1 ln1 wf1 x2 (i64_of wx2) x3 ln3 wf3) (St.start W)).mono fun e W' ⟨he, hs⟩ => ?_
  subst he
  have bel := hs.below
  exact ⟨_, rfl, _, _, _, [], _, [], hW', trodAll_mk1 (shut_bool tkunderlying_4_some_bool _), (trodAll_cons_mk (trod_below tklaidOutB_true (by kernel_rfl) (of_decide_eq_true (by kernel_rfl)) hh0 bel) (trodAll_cons_mk (trod_below tklaidOutB_true (by kernel_rfl) (of_decide_eq_true (by kernel_rfl)) hh1 bel) (trodAll_cons_mk (trod_below tklaidOutB_true (by kernel_rfl) (of_decide_eq_true (by kernel_rfl)) hh2 bel) (trodAll_cons_mk (trod_below tklaidOutB_true (by kernel_rfl) (of_decide_eq_true (by kernel_rfl)) hh3 bel) trodAll_mk0)))), rfl, bel.frame _, fun h => by cases h⟩

theorem echoPlays_holds : Rows.EchoPlaysSaid :=
  OpenClaim.holds_of_wide 3 Try.f3 rfl rfl rfl rfl rfl rfl rfl ⟨rfl, rfl, rfl, rfl, rfl⟩ rfl rfl rfl rfl rfl (by kernel_rfl) Try.func3 (by kernel_rfl)
    (of_decide_eq_true (by kernel_rfl)) (by unfold Func.isWrapper; first | (rw [if_pos (by decide +kernel)]; kernel_rfl) | (rw [if_neg (by decide +kernel)]; exact ⟨rfl, rfl⟩))
    (fun os started H enc _ => echoPlays_lifted os started H enc)
#print axioms echoPlays_holds
end Go.Proofs.Ytpeijfboikfcjaa
