/-
  More rules: a slice against nil, an empty literal. Nothing of any program stands here.
-/
import Derived.Test.YtgofkfhkolkfmaaBk8
import Derived.Lib.SliceRun
namespace Go.Bk
open Go
set_option linter.unusedVariables false
set_option linter.unusedSimpArgs false
section
variable {P : Program} {N : Nat} {B : World} {E : Env} {L : List HP} {ops : Array Oper} {rest : List Oper} {Q : Act → World → Prop}
variable {d : Nat} {dd : Option Tmp} {ty : TypeId} {ps : String} {af : Array Edge} {gd : Option (Nat × Bool)}

/-- Is a slice nil? If so, it is empty. -/
theorem TO.nilck {t e sz : Nat} {x : Operand} {v : Value} {css : List (List Value)} {u : TypeId} (hx : opv E x = some v) (en : Ent L (Rd sz v css)) (ht : sliceB P t e sz = true) (hd : Nat.blt d N = true)
    (h : ∀ b, (b = true → css = []) → TO P N B ops rest ((d, .bool b) :: E) L Q) : TO P N B ops (⟨some d, .binOp .eql t x (.const (.slice none 0 0)) u, ty, ps, af, none⟩ :: rest) E L Q := by
  have hu := (sliceB_spec ht).1
  refine TO.step (R := fun r L' => L' = L ∧ ∃ b, r = .bool b ∧ (b = true → css = [])) rfl rfl hd (StepW.of_run fun a w en' s => ?_) (fun r L' ⟨hL, b, hr, hb⟩ => by subst hL; subst hr; exact h b hb)
  obtain ⟨h1, sh, hlen, hr⟩ := s.get en
  have hrun : ∀ a n c, (binOp .eql t (.slice a n c) (.slice none 0 0)).run P w = .ok (.bool a.isNone) w := fun a n c => by
    have h2 : ∀ d, (Op.equalIn (d + 1) t (.slice a n c) (.slice none 0 0)).run P w = .ok a.isNone w := fun d => by
      cases a <;> simp [Op.equalIn, run_underlying hu]
    have h3 : (Op.equal t (.slice a n c) (.slice none 0 0)).run P w = .ok a.isNone w := h2 9999
    simp only [binOp]
    simp [h3]
  have hnil : a.eval (.const (.slice none 0 0)) = .slice none 0 0 := rfl
  rcases hr with ⟨⟨ad, rfl⟩, rfl⟩ | ⟨b, o, cap, arr, el, fz, rfl, _⟩
  · exact ⟨.bool ad.isNone, L, w, by simp [execOp, en'.eval hx, hnil, eqGuard, hrun], ⟨rfl, _, rfl, fun _ => rfl⟩, s⟩
  · exact ⟨.bool false, L, w, by simp [execOp, en'.eval hx, hnil, eqGuard, hrun], ⟨rfl, _, rfl, fun hb => by cases hb⟩, s⟩
/-- A slice that is written out with nothing in it. -/
theorem TO.lit0 {t e sz : Nat} {α : Type} {f : α → List Value} (ht : sliceB P t e sz = true) (hd : Nat.blt d N = true)
    (h : ∀ v, TO P N B ops rest ((d, v) :: E) (OwnS e sz v (([] : List α).map f) :: L) Q) : TO P N B ops (⟨some d, .buildSlice t 0 #[], ty, ps, af, none⟩ :: rest) E L Q := by
  obtain ⟨hu, hs⟩ := sliceB_spec ht
  refine TO.step (R := fun v L' => ∃ v0, v = v0 ∧ L' = OwnS e sz v0 (([] : List α).map f) :: L) rfl rfl hd (StepW.of_run fun a w en s => ?_) (fun v L' ⟨v0, hv, hL⟩ => by subst hv; subst hL; exact h v)
  have hr : (Instr.buildSlice t 0 #[]).run P w = .ok (.slice (some ⟨w.heap.size, 0, none⟩) 0 0) (w.alloc (.cells #[] e)) := by
    have hz : ∀ f : Nat → Value, Array.map f (Array.range 0) = #[] := fun f => by apply Array.ext <;> simp
    simp [Instr.buildSlice, run_underlying hu, run_sizeB hs, Instr.fill, newRow, hz]
  have hr' : (execOp a.eval ⟨some d, .buildSlice t 0 #[], ty, ps, af, none⟩).run P w = .ok (.value (.slice (some ⟨w.heap.size, 0, none⟩) 0 0)) (w.alloc (.cells #[] e)) := by
    have hm : (Array.map (fun (x : Nat × Operand) => (x.1, a.eval x.2)) #[]) = #[] := by simp
    simp only [execOp, hm, Sem.run_bind, hr, Result.andThen_ok, Sem.run_pure]
  refine ⟨_, _, _, hr', ⟨_, rfl, rfl⟩, s.new ?_⟩
  exact ⟨fun _ h => (by cases h), .inl ⟨⟨_, rfl⟩, rfl⟩⟩
end
end Go.Bk
