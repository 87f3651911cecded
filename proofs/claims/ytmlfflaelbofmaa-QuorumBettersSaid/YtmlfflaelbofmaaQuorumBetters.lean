/-
  The statement QuorumBettersSaid: for every input the call of the Go function beaconry/beaconrylaw.QuorumBetters returns true, and each argument reads afterwards as it read before. No condition narrows the inputs.
-/
import Derived.Test.YtmlfflaelbofmaaRows
import Derived.WalkKit
import Derived.ProofKit
import Derived.Test.YtmlfflaelbofmaaBk6
import Derived.Test.YtmlfflaelbofmaaAW
import Derived.Test.YtmlfflaelbofmaaPQuorumBetters

namespace Go.Proofs.Ytmlfflaelbofmaa
open Go Go.Bk Go.ChangeShapes Go.WideShapes Go.ChangeAt Go.RowKit
set_option linter.unusedVariables false
set_option linter.unusedSimpArgs false
theorem tkunderlying_3_some_int_i64 : Try.prog.underlying 3 = some (.int .i64) := by kernel_rfl
theorem tkunderlying_35_some_int_u32 : Try.prog.underlying 35 = some (.int .u32) := by kernel_rfl
theorem tkunderlying_34_some_slice_35 : Try.prog.underlying 34 = some (.slice 35) := by kernel_rfl
theorem tksliceB_34_35_1_true : sliceB Try.prog 34 35 1 = true := by kernel_rfl
theorem tkunderlying_4_some_bool : Try.prog.underlying 4 = some .bool := by kernel_rfl
theorem tkownKnob_godebug_none : ownKnob Try.prog.godebug = none := by kernel_rfl
theorem tklaidOutB_true : laidOutB Try.prog = true := by kernel_rfl

set_option maxRecDepth 100000 in
theorem quorumBetters_lifted (os : Os) (started : os.Started) (H : Type) (enc : TypeId × Value → H) :
    ReturnsInHanded Rows.quorumBettersRow.assume Try.checked os 14 .any (Rows.quorumBettersSpec.pre6 enc Try.prog Try.f14 Rows.quorumBettersRow.domain false) (Rows.quorumBettersSpec.post enc Try.prog Try.f14 false true false false) := by
  refine returnsInHanded_of_change (C := Try.checked) tkownKnob_godebug_none started (by kernel_rfl) Try.func14
    (ChangeSpec.witness6 (enc := enc) (C := Try.checked) false ⟨#[], #[.int .i64 0, .slice none 0 0], []⟩ 8 (by kernel_rfl) (by kernel_rfl) (by kernel_rfl) (by kernel_rfl)) ?_
  intro W base args ds gs before hval0 hW hcnd _
  have hval : ∀ (j : Nat) t v, Try.f14.params[j]? = some t → args[j]? = some v → Value.okWide Try.prog W .any base t v := hval0
  have hW' := hW
  obtain ⟨p, q, hA0, hV, rfl, hfz, hnd⟩ := hW
  have hA : DataW.TrodAll enc Try.prog W 0 (fun _ => true) true Try.f14.params.toList args.toList ds p := hA0
  rw [Try.params14] at hA hval
  obtain ⟨v0, vs0, d0, ds0, p0, q0, hargs, rfl, rfl, h0, r0⟩ := trodAll_cons hA
  obtain ⟨v1, vs1, d1, ds1, p1, q1, rfl, rfl, rfl, h1, r1⟩ := trodAll_cons r0
  obtain ⟨rfl, rfl, rfl⟩ := trodAll_nil r1
  obtain rfl : args = #[v0, v1] := by cases args; simp_all
  obtain ⟨rfl, rfl⟩ := trodVars_none hV
  have hh1 := h1
  have hh0 := h0
  obtain ⟨x0, rfl, rfl, rfl, wx0⟩ := open_int tkunderlying_3_some_int_i64 (hval 0 3 v0 rfl rfl) h0
  obtain ⟨x1, en1, ln1, wf1⟩ := open_rd tksliceB_34_35_1_true (by decide) (okWide_slice tkunderlying_34_some_slice_35 (hval 1 34 v1 rfl rfl)) h1 (opens_u32 tkunderlying_35_some_int_u32)
  clear hA0 hval0
  refine (C14 en1 (law_QuorumBetters x0 (i64_of wx0) x1 ln1 wf1) (St.start W)).mono fun e W' ⟨he, hs⟩ => ?_
  subst he
  have bel := hs.below
  exact ⟨_, rfl, _, _, _, [], _, [], hW', trodAll_mk1 (shut_bool tkunderlying_4_some_bool _), (trodAll_cons_mk (trod_below tklaidOutB_true (by kernel_rfl) (of_decide_eq_true (by kernel_rfl)) hh0 bel) (trodAll_cons_mk (trod_below tklaidOutB_true (by kernel_rfl) (of_decide_eq_true (by kernel_rfl)) hh1 bel) trodAll_mk0)), rfl, bel.frame _, fun h => by cases h⟩

theorem quorumBetters_holds : Rows.QuorumBettersSaid :=
  OpenClaim.holds_of_wide 14 Try.f14 rfl rfl rfl rfl rfl rfl rfl ⟨rfl, rfl, rfl, rfl, rfl⟩ rfl rfl rfl rfl rfl (by kernel_rfl) Try.func14 (by kernel_rfl)
    (of_decide_eq_true (by kernel_rfl)) (by unfold Func.isWrapper; first | (rw [if_pos (by decide +kernel)]; kernel_rfl) | (rw [if_neg (by decide +kernel)]; exact ⟨rfl, rfl⟩))
    (fun os started H enc _ => quorumBetters_lifted os started H enc)
#print axioms quorumBetters_holds
end Go.Proofs.Ytmlfflaelbofmaa
