import Derived.Test.YtdjmlbjkendobaaBk26
/-
  A slice of slices of which a row is out: its length, and the places of its rows.
-/
namespace Go.Bk
open Go
section
variable {α : Type} {e ee sz : Nat} {f : α → List Value} {v : Value} {hs : List Value} {xss : List (List α)} {L : List HP} {i0 : Nat}
theorem SSh.top (en : Ent L (SSh e ee sz f v hs xss i0)) : Ent L (Rd 1 v (hs.map hd1)) := by
  refine OwnS.rd (e := e) (en.imp fun h ⟨_, k1, k2, d, s1, s2, a, _⟩ => ⟨k1, ?_, a⟩)
  exact s1
variable {P : Program} {N : Nat} {B : World} {E : Env} {dd : Option Nat} {ty : TypeId} {ps : String} {af : Array Edge} {gd : Option (Nat × Bool)}
theorem StepS.idxRH {t : Nat} {x y : Operand} {k : IntKind} {i : Int} {row : List α} (hx : opv E x = some v) (hy : opv E y = some (.int k i)) (en : Ent L (SSh e ee sz f v hs xss i0)) (ht : sliceB P t e 1 = true)
    (hr : Go.Bk.idx xss i = some row) : StepS P N B ⟨dd, .indexAddr t x y, ty, ps, af, gd⟩ E L (ptr v (i.toNat * 1)) := by
  intro a w en' s
  obtain ⟨h, sh, hl, _⟩ := s.get en
  have hlt := idx_lt hr
  exact StepS.idx hx hy (SSh.top en) ht (idx_spec hr).1 (by simp; omega) a w en' s
end
end Go.Bk
