import Derived.Test.YtgofkfhkolkfmaaBk26
/-
  A slice of slices of which a row is out: its length, and the places of its rows.
-/
namespace Go.Bk
open Go
section
variable {α : Type} {e ee sz : Nat} {f : α → List Value} {v : Value} {hs : List Value} {xss : List (List α)} {L : List HP} {i0 : Nat}
theorem SSh.top (en : Ent L (SSh e ee sz f v hs xss i0)) : Ent L (Rd 1 v (hs.map hd1)) := by
  refine OwnS.rd (e := e) (en.imp fun h ⟨_, k1, k2, d, s1, s2, a, _⟩ => ⟨k1, ?_, a⟩)
  exact s1
variable {P : Program} {N : Nat} {B : World} {E : Env} {dd : Option Nat} {ty : TypeId} {ps : String} {af : Array Edge} {gd : Option (Nat × Bool)}
theorem StepS.idxRH {t : Nat} {x y : Operand} {k : IntKind} {i : Int} {row : List α} (hx : opv E x = some v) (hy : opv E y = some (.int k i)) (en : Ent L (SSh e ee sz f v hs xss i0)) (ht : sliceB P t e 1 = true)
    (hr : Go.Bk.idx xss i = some row) : StepS P N B ⟨dd, .indexAddr t x y, ty, ps, af, gd⟩ E L (ptr v (i.toNat * 1)) := by
  intro a w en' s
  obtain ⟨h, sh, hl, _⟩ := s.get en
  have hlt := idx_lt hr
  exact StepS.idx hx hy (SSh.top en) ht (idx_spec hr).1 (by simp; omega) a w en' s
end

/-! What stands here, in another order, some left out. -/
def toFront (k : Nat) (M : List HP) : List HP := match M[k]? with
  | some A => A :: M.eraseIdx k
  | none => M
def turnL : List Nat → List HP → List HP
  | [], M => M
  | k :: ks, M => turnL ks (toFront k M)
def leave : Nat → Nat → List HP → List HP
  | _, 0, M => M
  | n, m + 1, M => leave n m (M.eraseIdx n)
theorem Sat.toFront {M : List HP} {h : PH} (k : Nat) (s : Sat M h) : Sat (toFront k M) h := by
  unfold Go.Bk.toFront
  cases e : M[k]? with
  | none => exact s
  | some A => exact Sat.front k e s
theorem Sat.turnL : ∀ (ks : List Nat) {M : List HP} {h : PH}, Sat M h → Sat (turnL ks M) h
  | [], _, _, s => s
  | k :: ks, _, _, s => Sat.turnL ks (Sat.toFront k s)
theorem Sat.leave : ∀ (n m : Nat) {M : List HP} {h : PH}, Sat M h → Sat (leave n m M) h
  | _, 0, _, _, s => s
  | n, m + 1, _, _, s => Sat.leave n m (Sat.erase n s)
theorem Sat.by {M M' : List HP} (ks : List Nat) (n m : Nat) (e : Go.Bk.leave n m (Go.Bk.turnL ks M) = M') {h : PH} (s : Sat M h) : Sat M' h := e ▸ Sat.leave n m (Sat.turnL ks s)

/-! What stands, written out anew (a long chain of sets and eraseIdx makes the elaborator slow). -/
section
variable {P : Program} {N : Nat} {B : World} {E : Env} {ops : Array Oper} {rest : List Oper} {Q : Act → World → Prop} {L0 L L' : List HP} {n fuel : Nat} {listed listed' : Array Bool}
theorem TO.asL (e : L = L') (h : TO P N B ops rest E L' Q) : TO P N B ops rest E L Q := e ▸ h
theorem TA.asL (e : L = L') (el : listed = listed') (h : TA P N B ops L0 n fuel listed' E L' Q) : TA P N B ops L0 n fuel listed E L Q := by subst e; subst el; exact h
end
end Go.Bk
