/-
  The statement GeneralPlaysSaid: for every input the call of the Go function beaconry/beaconrylaw.GeneralPlays returns true, and each argument reads afterwards as it read before. No condition narrows the inputs.
-/
import Derived.Test.YtdjmlbjkendobaaRows
import Derived.WalkKit
import Derived.ProofKit
import Derived.Test.YtdjmlbjkendobaaBk6
import Derived.Test.YtdjmlbjkendobaaGW
import Derived.Test.YtdjmlbjkendobaaPGeneralPlays

namespace Go.Proofs.Ytdjmlbjkendobaa
open Go Go.Bk Go.ChangeShapes Go.WideShapes Go.ChangeAt Go.RowKit
set_option linter.unusedVariables false
set_option linter.unusedSimpArgs false
theorem tkunderlying_3_some_int_i64 : Try.prog.underlying 3 = some (.int .i64) := by kernel_rfl
theorem tkunderlying_4_some_bool : Try.prog.underlying 4 = some .bool := by kernel_rfl
theorem tkunderlying_31_some_int_u32 : Try.prog.underlying 31 = some (.int .u32) := by kernel_rfl
theorem tkunderlying_53_some_slice_4 : Try.prog.underlying 53 = some (.slice 4) := by kernel_rfl
theorem tksliceB_53_4_1_true : sliceB Try.prog 53 4 1 = true := by kernel_rfl
theorem tkownKnob_godebug_none : ownKnob Try.prog.godebug = none := by kernel_rfl
theorem tklaidOutB_true : laidOutB Try.prog = true := by kernel_rfl

set_option maxRecDepth 100000 in
theorem generalPlays_lifted (os : Os) (started : os.Started) (H : Type) (enc : TypeId × Value → H) :
    ReturnsInHanded Rows.generalPlaysRow.assume Try.checked os 12 .any (Rows.generalPlaysSpec.pre6 enc Try.prog Try.f12 Rows.generalPlaysRow.domain false) (Rows.generalPlaysSpec.post enc Try.prog Try.f12 false true false false) := by
  refine returnsInHanded_of_change (C := Try.checked) tkownKnob_godebug_none started (by kernel_rfl) Try.func12
    (ChangeSpec.witness6 (enc := enc) (C := Try.checked) false ⟨#[], #[.int .i64 0, .int .i64 0, .bool false, .int .u32 0, .slice none 0 0], []⟩ 8 (by kernel_rfl) (by kernel_rfl) (by kernel_rfl) (by kernel_rfl)) ?_
  intro W base args ds gs before hval0 hW hcnd _
  have hval : ∀ (j : Nat) t v, Try.f12.params[j]? = some t → args[j]? = some v → Value.okWide Try.prog W .any base t v := hval0
  have hW' := hW
  obtain ⟨p, q, hA0, hV, rfl, hfz, hnd⟩ := hW
  have hA : DataW.TrodAll enc Try.prog W 0 (fun _ => true) true Try.f12.params.toList args.toList ds p := hA0
  rw [Try.params12] at hA hval
  obtain ⟨v0, vs0, d0, ds0, p0, q0, hargs, rfl, rfl, h0, r0⟩ := trodAll_cons hA
  obtain ⟨v1, vs1, d1, ds1, p1, q1, rfl, rfl, rfl, h1, r1⟩ := trodAll_cons r0
  obtain ⟨v2, vs2, d2, ds2, p2, q2, rfl, rfl, rfl, h2, r2⟩ := trodAll_cons r1
  obtain ⟨v3, vs3, d3, ds3, p3, q3, rfl, rfl, rfl, h3, r3⟩ := trodAll_cons r2
  obtain ⟨v4, vs4, d4, ds4, p4, q4, rfl, rfl, rfl, h4, r4⟩ := trodAll_cons r3
  obtain ⟨rfl, rfl, rfl⟩ := trodAll_nil r4
  obtain rfl : args = #[v0, v1, v2, v3, v4] := by cases args; simp_all
  obtain ⟨rfl, rfl⟩ := trodVars_none hV
  have hh4 := h4
  have hh0 := h0
  obtain ⟨x0, rfl, rfl, rfl, wx0⟩ := open_int tkunderlying_3_some_int_i64 (hval 0 3 v0 rfl rfl) h0
  have hh1 := h1
  obtain ⟨x1, rfl, rfl, rfl, wx1⟩ := open_int tkunderlying_3_some_int_i64 (hval 1 3 v1 rfl rfl) h1
  have hh2 := h2
  obtain ⟨x2, rfl, rfl, rfl⟩ := open_bool tkunderlying_4_some_bool (hval 2 4 v2 rfl rfl) h2
  have hh3 := h3
  obtain ⟨x3, rfl, rfl, rfl, wx3⟩ := open_int tkunderlying_31_some_int_u32 (hval 3 31 v3 rfl rfl) h3
  obtain ⟨y3, rfl⟩ := u32_of wx3
  obtain ⟨x4, en4, ln4, wf4⟩ := open_rd tksliceB_53_4_1_true (by decide) (okWide_slice tkunderlying_53_some_slice_4 (hval 4 53 v4 rfl rfl)) h4 (opens_bool tkunderlying_4_some_bool)
  clear hA0 hval0
  refine (C12 en4 (law_GeneralPlays x0 (i64_of wx0) x1 (i64_of wx1) x2 y3 x4 ln4 wf4) (St.start W)).mono fun e W' ⟨he, hs⟩ => ?_
  subst he
  have bel := hs.below
  exact ⟨_, rfl, _, _, _, [], _, [], hW', trodAll_mk1 (shut_bool tkunderlying_4_some_bool _), (trodAll_cons_mk (trod_below tklaidOutB_true (by kernel_rfl) (of_decide_eq_true (by kernel_rfl)) hh0 bel) (trodAll_cons_mk (trod_below tklaidOutB_true (by kernel_rfl) (of_decide_eq_true (by kernel_rfl)) hh1 bel) (trodAll_cons_mk (trod_below tklaidOutB_true (by kernel_rfl) (of_decide_eq_true (by kernel_rfl)) hh2 bel) (trodAll_cons_mk (trod_below tklaidOutB_true (by kernel_rfl) (of_decide_eq_true (by kernel_rfl)) hh3 bel) (trodAll_cons_mk (trod_below tklaidOutB_true (by kernel_rfl) (of_decide_eq_true (by kernel_rfl)) hh4 bel) trodAll_mk0))))), rfl, bel.frame _, fun h => by cases h⟩

theorem generalPlays_holds : Rows.GeneralPlaysSaid :=
  OpenClaim.holds_of_wide 12 Try.f12 rfl rfl rfl rfl rfl rfl rfl ⟨rfl, rfl, rfl, rfl, rfl⟩ rfl rfl rfl rfl rfl (by kernel_rfl) Try.func12 (by kernel_rfl)
    (of_decide_eq_true (by kernel_rfl)) (by unfold Func.isWrapper; first | (rw [if_pos (by decide +kernel)]; kernel_rfl) | (rw [if_neg (by decide +kernel)]; exact ⟨rfl, rfl⟩))
    (fun os started H enc _ => generalPlays_lifted os started H enc)
#print axioms generalPlays_holds
end Go.Proofs.Ytdjmlbjkendobaa
