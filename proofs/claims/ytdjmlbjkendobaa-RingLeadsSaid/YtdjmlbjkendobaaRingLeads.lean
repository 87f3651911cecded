/-
  The statement RingLeadsSaid: for every input the call of the Go function beaconry/beaconrylaw.RingLeads returns true, and each argument reads afterwards as it read before. No condition narrows the inputs.
-/
import Derived.Test.YtdjmlbjkendobaaRows
import Derived.WalkKit
import Derived.ProofKit
import Derived.Test.YtdjmlbjkendobaaBk6
import Derived.Test.YtdjmlbjkendobaaLW
import Derived.Test.YtdjmlbjkendobaaPRingLeads

namespace Go.Proofs.Ytdjmlbjkendobaa
open Go Go.Bk Go.ChangeShapes Go.WideShapes Go.ChangeAt Go.RowKit
set_option linter.unusedVariables false
set_option linter.unusedSimpArgs false
theorem tkunderlying_3_some_int_i64 : Try.prog.underlying 3 = some (.int .i64) := by kernel_rfl
theorem tkunderlying_22_some_slice_3 : Try.prog.underlying 22 = some (.slice 3) := by kernel_rfl
theorem tksliceB_22_3_1_true : sliceB Try.prog 22 3 1 = true := by kernel_rfl
theorem tkunderlying_4_some_bool : Try.prog.underlying 4 = some .bool := by kernel_rfl
theorem tkunderlying_53_some_slice_4 : Try.prog.underlying 53 = some (.slice 4) := by kernel_rfl
theorem tksliceB_53_4_1_true : sliceB Try.prog 53 4 1 = true := by kernel_rfl
theorem tkownKnob_godebug_none : ownKnob Try.prog.godebug = none := by kernel_rfl
theorem tklaidOutB_true : laidOutB Try.prog = true := by kernel_rfl

set_option maxRecDepth 100000 in
theorem ringLeads_lifted (os : Os) (started : os.Started) (H : Type) (enc : TypeId × Value → H) :
    ReturnsInHanded Rows.ringLeadsRow.assume Try.checked os 11 .any (Rows.ringLeadsSpec.pre6 enc Try.prog Try.f11 Rows.ringLeadsRow.domain false) (Rows.ringLeadsSpec.post enc Try.prog Try.f11 false true false false) := by
  refine returnsInHanded_of_change (C := Try.checked) tkownKnob_godebug_none started (by kernel_rfl) Try.func11
    (ChangeSpec.witness6 (enc := enc) (C := Try.checked) false ⟨#[], #[.slice none 0 0, .slice none 0 0], []⟩ 8 (by kernel_rfl) (by kernel_rfl) (by kernel_rfl) (by kernel_rfl)) ?_
  intro W base args ds gs before hval0 hW hcnd _
  have hval : ∀ (j : Nat) t v, Try.f11.params[j]? = some t → args[j]? = some v → Value.okWide Try.prog W .any base t v := hval0
  have hW' := hW
  obtain ⟨p, q, hA0, hV, rfl, hfz, hnd⟩ := hW
  have hA : DataW.TrodAll enc Try.prog W 0 (fun _ => true) true Try.f11.params.toList args.toList ds p := hA0
  rw [Try.params11] at hA hval
  obtain ⟨v0, vs0, d0, ds0, p0, q0, hargs, rfl, rfl, h0, r0⟩ := trodAll_cons hA
  obtain ⟨v1, vs1, d1, ds1, p1, q1, rfl, rfl, rfl, h1, r1⟩ := trodAll_cons r0
  obtain ⟨rfl, rfl, rfl⟩ := trodAll_nil r1
  obtain rfl : args = #[v0, v1] := by cases args; simp_all
  obtain ⟨rfl, rfl⟩ := trodVars_none hV
  have hh0 := h0
  have hh1 := h1
  obtain ⟨x0, en0, ln0, wf0⟩ := open_rd tksliceB_22_3_1_true (by decide) (okWide_slice tkunderlying_22_some_slice_3 (hval 0 22 v0 rfl rfl)) h0 (opens_int tkunderlying_3_some_int_i64)
  obtain ⟨x1, en1, ln1, wf1⟩ := open_rd tksliceB_53_4_1_true (by decide) (okWide_slice tkunderlying_53_some_slice_4 (hval 1 53 v1 rfl rfl)) h1 (opens_bool tkunderlying_4_some_bool)
  clear hA0 hval0
  refine (C11 en0 en1 (law_RingLeads x0 ln0 wf0 x1 ln1 wf1) (St.start W)).mono fun e W' ⟨he, hs⟩ => ?_
  subst he
  have bel := hs.below
  exact ⟨_, rfl, _, _, _, [], _, [], hW', trodAll_mk1 (shut_bool tkunderlying_4_some_bool _), (trodAll_cons_mk (trod_below tklaidOutB_true (by kernel_rfl) (of_decide_eq_true (by kernel_rfl)) hh0 bel) (trodAll_cons_mk (trod_below tklaidOutB_true (by kernel_rfl) (of_decide_eq_true (by kernel_rfl)) hh1 bel) trodAll_mk0)), rfl, bel.frame _, fun h => by cases h⟩

theorem ringLeads_holds : Rows.RingLeadsSaid :=
  OpenClaim.holds_of_wide 11 Try.f11 rfl rfl rfl rfl rfl rfl rfl ⟨rfl, rfl, rfl, rfl, rfl⟩ rfl rfl rfl rfl rfl (by kernel_rfl) Try.func11 (by kernel_rfl)
    (of_decide_eq_true (by kernel_rfl)) (by unfold Func.isWrapper; first | (rw [if_pos (by decide +kernel)]; kernel_rfl) | (rw [if_neg (by decide +kernel)]; exact ⟨rfl, rfl⟩))
    (fun os started H enc _ => ringLeads_lifted os started H enc)
#print axioms ringLeads_holds
end Go.Proofs.Ytdjmlbjkendobaa
