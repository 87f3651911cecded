/-
  Chains of structs in memory that are read: each one's last cell points at the next. Nothing of any program stands here.
-/
import Derived.Test.YtgofkfhkolkfmaaBk20
namespace Go.Bk
open Go
set_option linter.unusedVariables false
set_option linter.unusedSimpArgs false

/-- The first of a list, and the rest: none stands for a panic. -/
def unc {α : Type} : List α → Option (α × List α)
  | [] => none
  | x :: xs => some (x, xs)
theorem unc_spec {α : Type} {l xs : List α} {x : α} (h : unc l = some (x, xs)) : l = x :: xs := by
  cases l with
  | nil => cases h
  | cons y ys => simp only [unc, Option.some.injEq, Prod.mk.injEq] at h; rw [h.1, h.2]
section
variable {α : Type}
@[reducible] def lptr (v : Value) (k : Nat) : Value := .pointer (some ⟨(match v with | .pointer (some a) => a.block | _ => 0), k, none⟩)
/-- The pointer that comes next. -/
def nxv (us : List Value) : Value := us.headD (.pointer none)
/-- A chain: the pointer, the pointers that follow, what stands in each. -/
def LkR (T : TypeId) (cf : α → List Value) : List α → Value → List Value → HP
  | [], v, _ => fun h => v = .pointer none
  | x :: xs, v, us => fun h => (∃ b, v = .pointer (some ⟨b, 0, none⟩) ∧ h b = some (.cells (cf x ++ [nxv us]).toArray T (0, 0))) ∧ LkR T cf xs (nxv us) us.tail h
def Lk (T : TypeId) (cf : α → List Value) (v : Value) (us : List Value) (xs : List α) : HP := LkR T cf xs v us
theorem Lk.mono {T : TypeId} {cf : α → List Value} {h g : PH} (s : Sub h g) : ∀ {xs : List α} {v : Value} {us : List Value}, Lk T cf v us xs h → Lk T cf v us xs g
  | [], v, us, k => k
  | x :: xs, v, us, ⟨⟨b, hv, hb⟩, k⟩ => ⟨⟨b, hv, s _ _ hb⟩, Lk.mono (xs := xs) s k⟩
variable {T : TypeId} {cf : α → List Value} {L : List HP} {v : Value} {us : List Value} {xs l : List α} {x : α}
theorem Lk.nilE : Ent L (Lk T cf (.pointer none) us ([] : List α)) := fun h _ => ⟨h, Sub.refl h, rfl⟩
theorem Lk.consE {b : Nat} {u : Value} {cs : List Value} (en : Ent L (Bx b T cs)) (hc : cs = cf x ++ [u]) (el : Ent L (Lk T cf u us xs)) : Ent L (Lk T cf (.pointer (some ⟨b, 0, none⟩)) (u :: us) (x :: xs)) := fun h s => by
  subst hc
  obtain ⟨h1, s1, b1⟩ := en h s
  obtain ⟨h2, s2, l2⟩ := el h s
  exact ⟨h, Sub.refl h, ⟨b, rfl, s1 _ _ b1⟩, Lk.mono s2 l2⟩
theorem Lk.next (en : Ent L (Lk T cf v us l)) (hx : unc l = some (x, xs)) : Ent L (Lk T cf (nxv us) us.tail xs) := fun h s => by
  have := unc_spec hx
  subst this
  obtain ⟨h1, s1, k⟩ := en h s
  exact ⟨h1, s1, k.2⟩
theorem Lk.one (en : Ent L (Lk T cf v us l)) {h : PH} (s : Sat L h) : v.oneCell' = true ∧ v.cells = #[v] := by
  obtain ⟨h1, s1, k⟩ := en h s
  cases l with
  | nil => have : v = .pointer none := k
           subst this; exact ⟨rfl, rfl⟩
  | cons x xs => obtain ⟨⟨b, rfl, _⟩, _⟩ := k; exact ⟨rfl, rfl⟩
theorem Lk.get (en : Ent L (Lk T cf v us l)) (hx : unc l = some (x, xs)) {h : PH} (s : Sat L h) : ∃ b, v = .pointer (some ⟨b, 0, none⟩) ∧ h b = some (.cells (cf x ++ [nxv us]).toArray T (0, 0)) := by
  have := unc_spec hx
  subst this
  obtain ⟨h1, s1, k⟩ := en h s
  obtain ⟨⟨b, hv, hb⟩, _⟩ := k
  exact ⟨b, hv, s1 _ _ hb⟩

variable {P : Program} {N : Nat} {B : World} {E : Env}
variable {dd : Option Tmp} {ty : TypeId} {ps : String} {af : Array Edge} {gd : Option (Nat × Bool)}
theorem StepS.lkn {y : Operand} (hx : opv E y = some v) (en : Ent L (Lk T cf v us l)) (hl : unc l = some (x, xs)) : StepS P N B ⟨dd, .nilCheck y, ty, ps, af, gd⟩ E L v := by
  intro a w e s
  obtain ⟨b, rfl, _⟩ := Lk.get en hl s.sat
  simp [execOp, e.eval hx]
theorem StepS.lkf {y : Operand} {t i off : Nat} (hx : opv E y = some v) (en : Ent L (Lk T cf v us l)) (hl : unc l = some (x, xs)) (hf : fieldB P t i off = true) : StepS P N B ⟨dd, .fieldAddr t y i, ty, ps, af, gd⟩ E L (lptr v off) := by
  intro a w e s
  obtain ⟨b, rfl, _⟩ := Lk.get en hl s.sat
  simp [execOp, e.eval hx, run_field hf, add_lit]
theorem StepS.lkl {y : Operand} {t j : Nat} {u : Value} (hx : opv E y = some (lptr v j)) (en : Ent L (Lk T cf v us l)) (hl : unc l = some (x, xs)) (ht : scalB P t = true) (hj : (cf x ++ [nxv us])[j]? = some u) : StepS P N B ⟨dd, .load t y, ty, ps, af, gd⟩ E L u := by
  intro a w e s
  obtain ⟨b, rfl, hb⟩ := Lk.get en hl s.sat
  have hb' : hw w b = some (.cells (cf x ++ [nxv us]).toArray T (0, 0)) := hb
  have := cell_of hb' j
  rw [show ((cf x ++ [nxv us]).toArray)[j]? = some u by simpa using hj] at this
  simp [execOp, e.eval hx, run_load1 ht this]
end
end Go.Bk
