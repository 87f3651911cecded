/-
  Structs that are built out of slices, and pointers that are tested. Nothing of any program stands here.
-/
import Derived.Test.YtgofkfhkolkfmaaBk16
namespace Go.Bk
open Go
set_option linter.unusedVariables false
set_option linter.unusedSimpArgs false
section
variable {P : Program} {N : Nat} {B : World} {E : Env} {L : List HP}
variable {dd : Option Tmp} {ty : TypeId} {ps : String} {af : Array Edge} {gd : Option (Nat × Bool)}

theorem fill_same {place : Nat → Option (Nat × Nat)} : ∀ {vs us : List (Nat × Value)} (cells : Array Value), vs.map (fun p => (p.1, p.2.cells)) = us.map (fun p => (p.1, p.2.cells)) → Instr.fill place cells vs = Instr.fill place cells us
  | [], [], _, _ => rfl
  | [], _ :: _, _, h => by simp at h
  | _ :: _, [], _, h => by simp at h
  | (i, v) :: vs, (j, u) :: us, cells, h => by
    simp only [List.map_cons, List.cons.injEq, Prod.mk.injEq] at h
    obtain ⟨⟨h1, h2⟩, h3⟩ := h
    subst h1
    unfold Instr.fill
    rw [h2]
    split
    · rfl
    · split
      · rfl
      · exact fill_same _ h3
theorem built_same {t : TypeId} {vs us : List (Nat × Value)} (h : vs.map (fun p => (p.1, p.2.cells)) = us.map (fun p => (p.1, p.2.cells))) : P.built t vs = P.built t us := by
  unfold Program.built
  split
  · split
    · exact fill_same _ h
    · rfl
  · split
    · exact fill_same _ h
    · rfl
  · rfl
theorem StepS.buildS {t : TypeId} {parts : List (Nat × Operand)} {vs us : List (Nat × Value)} {cs : List Value} (hp : opvp E parts = some vs) (hs : vs.map (fun p => (p.1, p.2.cells)) = us.map (fun p => (p.1, p.2.cells))) (h : P.built t us = some cs.toArray) :
    StepS P N B ⟨dd, .build t parts.toArray, ty, ps, af, gd⟩ E L (.agg cs.toArray) := StepS.build hp (by rw [built_same hs]; exact h)
theorem StepS.nilc {x : Operand} {a : Addr} (hx : opv E x = some (.pointer (some a))) : StepS P N B ⟨dd, .nilCheck x, ty, ps, af, gd⟩ E L (.pointer (some a)) := by
  intro b w e s
  simp [execOp, e.eval hx]
end
end Go.Bk
