/-
  Two slices written out in a slice. Nothing of any program stands here.
-/
import Derived.Test.YtgofkfhkolkfmaaBk10
namespace Go.Bk
open Go
set_option linter.unusedVariables false
set_option linter.unusedSimpArgs false
section
variable {P : Program} {N : Nat} {B : World} {E : Env} {L : List HP} {ops : Array Oper} {rest : List Oper} {Q : Act → World → Prop}
variable {d : Nat} {dd : Option Tmp} {ty : TypeId} {ps : String} {af : Array Edge} {gd : Option (Nat × Bool)}

theorem Sat.emp {L : List HP} {h : PH} (s : Sat L h) : Sat ((fun _ => True) :: L) h :=
  ⟨fun _ => none, h, fun _ => .inl rfl, fun _ _ e => (by cases e), Sub.refl h, trivial, s⟩
@[reducible] def hd1 (h : Value) : List Value := [h]
theorem Rd.cells {L : List HP} {sz : Nat} {v : Value} {css : List (List Value)} {w : World} {B : World} (s : St B L w) (en : Ent L (Rd sz v css)) : v.cells = #[v] := by
  obtain ⟨h1, _, _, hr⟩ := s.get en
  rcases hr with ⟨⟨ad, rfl⟩, _⟩ | ⟨b, o, cap, arr, el, fz, rfl, _⟩ <;> rfl
theorem TO.lit2H {t e bytes s0 s1 : Nat} {x y : Operand} {h0 h1 : Value} {c0 c1 : List (List Value)} (hx : opv E x = some h0) (hy : opv E y = some h1) (e0 : Ent L (Rd s0 h0 c0)) (e1 : Ent L (Rd s1 h1 c1)) (ht : elemB P t e 1 bytes = true) (hd : Nat.blt d N = true)
    (h : ∀ v, TO P N B ops rest ((d, v) :: E) (OwnS e 1 v ([h0, h1].map hd1) :: L) Q) : TO P N B ops (⟨some d, .buildSlice t 2 #[(0, x), (1, y)], ty, ps, af, none⟩ :: rest) E L Q := by
  obtain ⟨hu, i, z, hi, hz, hs, hb, hzs⟩ := elemB_spec ht
  refine TO.step (R := fun v L' => ∃ v0, v = v0 ∧ L' = OwnS e 1 v0 ([h0, h1].map hd1) :: L) rfl rfl hd (StepW.of_run fun a w en s => ?_) (fun v L' ⟨v0, hv, hL⟩ => by subst hv; subst hL; exact h v)
  have q0 := Rd.cells s e0
  have q1 := Rd.cells s e1
  have hm : (Array.map (fun (i, x) => (i, a.eval x)) #[(0, x), (1, y)]).toList = [(0, h0), (1, h1)] := by simp [en.eval hx, en.eval hy]
  have hsz : ((Array.range (2 * i.size)).map (z.cells[· % z.cells.size]!)).size = 2 := by simp [hs]
  have hf : Instr.fill (fun j => some (j * i.size, i.size)) ((Array.range (2 * i.size)).map (z.cells[· % z.cells.size]!)) [(0, h0), (1, h1)] = some #[h0, h1] := by
    generalize (Array.range (2 * i.size)).map (z.cells[· % z.cells.size]!) = arr at hsz
    rw [hs]
    obtain ⟨l⟩ := arr
    match l, hsz with
    | [u, v], _ => simp [Instr.fill, q0, q1]
  have hr := run_buildSlice (P := P) w t e 2 (Array.map (fun (i, x) => (i, a.eval x)) #[(0, x), (1, y)]) _ i z hu hi hz (by omega) (by omega) (by rw [hm]; exact hf)
  have hr' : (execOp a.eval ⟨some d, .buildSlice t 2 #[(0, x), (1, y)], ty, ps, af, none⟩).run P w = .ok (.value (.slice (some ⟨w.heap.size, 0, none⟩) 2 2)) (w.alloc (.cells #[h0, h1] e)) := by
    simp only [execOp, Sem.run_bind, hr, Result.andThen_ok, Sem.run_pure]
  refine ⟨_, _, _, hr', ⟨_, rfl, rfl⟩, s.new ?_⟩
  exact ⟨fun c hc => by simp [hd1] at hc; rcases hc with rfl | rfl <;> rfl, .inr ⟨w.heap.size, 0, 2, #[h0, h1], rfl, Nat.le_refl _, by unfold maxLen; omega, put_same _ _ _, Nat.le_refl _, rfl⟩⟩
theorem StepS.len2H {t e : Nat} {x : Operand} {v h0 h1 : Value} (hx : opv E x = some v) (en : Ent L (Rd 1 v ([h0, h1].map hd1))) (ht : sliceB P t e 1 = true) {ts : Array TypeId} (hts : ts = #[t]) :
    StepS P N B ⟨dd, .call ⟨.builtin .len, #[x], ts⟩, ty, ps, af, gd⟩ E L (.int .i64 2) := StepS.lenm hx en ht hts
theorem pickH {sz : Nat} {α : Type} {f : α → List Value} {a0 a1 x : List α} {h0 h1 : Value} {i : Int} (hx : idx [a0, a1] i = some x) (e0 : Ent L (Rd sz h0 (a0.map f))) (e1 : Ent L (Rd sz h1 (a1.map f))) :
    ∃ hv, idx [h0, h1] i = some hv ∧ Ent L (Rd sz hv (x.map f)) := by
  obtain ⟨p, q⟩ := idx_spec hx
  have hlt := (List.getElem?_eq_some_iff.1 q).1
  simp at hlt
  unfold idx
  rw [if_pos p]
  have : i.toNat = 0 ∨ i.toNat = 1 := by omega
  rcases this with r | r <;> rw [r] at q ⊢ <;> simp at q <;> subst q
  · exact ⟨h0, rfl, e0⟩
  · exact ⟨h1, rfl, e1⟩
end
end Go.Bk
