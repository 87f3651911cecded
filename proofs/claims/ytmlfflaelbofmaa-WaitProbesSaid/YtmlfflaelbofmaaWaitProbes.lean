/-
  The statement WaitProbesSaid: for every input the call of the Go function beaconry/beaconrylaw.WaitProbes returns true, and each argument reads afterwards as it read before. No condition narrows the inputs.
-/
import Derived.Test.YtmlfflaelbofmaaRows
import Derived.WalkKit
import Derived.ProofKit
import Derived.Test.YtmlfflaelbofmaaBk6
import Derived.Test.YtmlfflaelbofmaaPW
import Derived.Test.YtmlfflaelbofmaaPWaitProbes

namespace Go.Proofs.Ytmlfflaelbofmaa
open Go Go.Bk Go.ChangeShapes Go.WideShapes Go.ChangeAt Go.RowKit
set_option linter.unusedVariables false
set_option linter.unusedSimpArgs false
theorem tkunderlying_35_some_int_u32 : Try.prog.underlying 35 = some (.int .u32) := by kernel_rfl
theorem tkunderlying_34_some_slice_35 : Try.prog.underlying 34 = some (.slice 35) := by kernel_rfl
theorem tksliceB_34_35_1_true : sliceB Try.prog 34 35 1 = true := by kernel_rfl
theorem tkunderlying_3_some_int_i64 : Try.prog.underlying 3 = some (.int .i64) := by kernel_rfl
theorem tkunderlying_4_some_bool : Try.prog.underlying 4 = some .bool := by kernel_rfl
theorem tkownKnob_godebug_none : ownKnob Try.prog.godebug = none := by kernel_rfl
theorem tklaidOutB_true : laidOutB Try.prog = true := by kernel_rfl

set_option maxRecDepth 100000 in
theorem waitProbes_lifted (os : Os) (started : os.Started) (H : Type) (enc : TypeId × Value → H) :
    ReturnsInHanded Rows.waitProbesRow.assume Try.checked os 9 .any (Rows.waitProbesSpec.pre6 enc Try.prog Try.f9 Rows.waitProbesRow.domain false) (Rows.waitProbesSpec.post enc Try.prog Try.f9 false true false false) := by
  refine returnsInHanded_of_change (C := Try.checked) tkownKnob_godebug_none started (by kernel_rfl) Try.func9
    (ChangeSpec.witness6 (enc := enc) (C := Try.checked) false ⟨#[], #[.slice none 0 0, .int .i64 0], []⟩ 8 (by kernel_rfl) (by kernel_rfl) (by kernel_rfl) (by kernel_rfl)) ?_
  intro W base args ds gs before hval0 hW hcnd _
  have hval : ∀ (j : Nat) t v, Try.f9.params[j]? = some t → args[j]? = some v → Value.okWide Try.prog W .any base t v := hval0
  have hW' := hW
  obtain ⟨p, q, hA0, hV, rfl, hfz, hnd⟩ := hW
  have hA : DataW.TrodAll enc Try.prog W 0 (fun _ => true) true Try.f9.params.toList args.toList ds p := hA0
  rw [Try.params9] at hA hval
  obtain ⟨v0, vs0, d0, ds0, p0, q0, hargs, rfl, rfl, h0, r0⟩ := trodAll_cons hA
  obtain ⟨v1, vs1, d1, ds1, p1, q1, rfl, rfl, rfl, h1, r1⟩ := trodAll_cons r0
  obtain ⟨rfl, rfl, rfl⟩ := trodAll_nil r1
  obtain rfl : args = #[v0, v1] := by cases args; simp_all
  obtain ⟨rfl, rfl⟩ := trodVars_none hV
  have hh0 := h0
  obtain ⟨x0, en0, ln0, wf0⟩ := open_rd tksliceB_34_35_1_true (by decide) (okWide_slice tkunderlying_34_some_slice_35 (hval 0 34 v0 rfl rfl)) h0 (opens_u32 tkunderlying_35_some_int_u32)
  have hh1 := h1
  obtain ⟨x1, rfl, rfl, rfl, wx1⟩ := open_int tkunderlying_3_some_int_i64 (hval 1 3 v1 rfl rfl) h1
  clear hA0 hval0
  refine (C9 en0 (law_WaitProbes x0 ln0 wf0 x1 (i64_of wx1)) (St.start W)).mono fun e W' ⟨he, hs⟩ => ?_
  subst he
  have bel := hs.below
  exact ⟨_, rfl, _, _, _, [], _, [], hW', trodAll_mk1 (shut_bool tkunderlying_4_some_bool _), (trodAll_cons_mk (trod_below tklaidOutB_true (by kernel_rfl) (of_decide_eq_true (by kernel_rfl)) hh0 bel) (trodAll_cons_mk (trod_below tklaidOutB_true (by kernel_rfl) (of_decide_eq_true (by kernel_rfl)) hh1 bel) trodAll_mk0)), rfl, bel.frame _, fun h => by cases h⟩

theorem waitProbes_holds : Rows.WaitProbesSaid :=
  OpenClaim.holds_of_wide 9 Try.f9 rfl rfl rfl rfl rfl rfl rfl ⟨rfl, rfl, rfl, rfl, rfl⟩ rfl rfl rfl rfl rfl (by kernel_rfl) Try.func9 (by kernel_rfl)
    (of_decide_eq_true (by kernel_rfl)) (by unfold Func.isWrapper; first | (rw [if_pos (by decide +kernel)]; kernel_rfl) | (rw [if_neg (by decide +kernel)]; exact ⟨rfl, rfl⟩))
    (fun os started H enc _ => waitProbes_lifted os started H enc)
#print axioms waitProbes_holds
end Go.Proofs.Ytmlfflaelbofmaa
