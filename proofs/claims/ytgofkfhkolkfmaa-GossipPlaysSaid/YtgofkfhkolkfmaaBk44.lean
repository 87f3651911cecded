/-
  A slice of structs out of which, element by element, one slice is taken for good: its model says which are still there. Nothing of any program stands here.
-/
import Derived.Test.YtgofkfhkolkfmaaBk43
namespace Go.Bk
open Go
set_option linter.unusedVariables false
set_option linter.unusedSimpArgs false
/-- What is left of a slice that may have been taken. -/
@[reducible] def OwnM {α : Type} (e sz : Nat) (v : Value) (f : α → List Value) : Option (List α) → HP
  | some l => OwnS e sz v (l.map f)
  | none => hpT
section
variable {α : Type} {e sz : Nat} {T : NT α} {v : Value} {gs : List (List Value)} {xs : List α} {L : List HP}
theorem SN.pieceM {β : Type} {e' sz' : Nat} {v' : Value} {f : β → List Value} {i : Int} {x : α} {o : Option (List β)} {l : List β} (en : Ent L (SN e sz T v gs xs)) (hx : idx xs i = some x) (m : Nat) (hm : (T.d x (gr gs i.toNat))[m]? = some (OwnM e' sz' v' f o)) (ho : o = some l) :
    Ent L (OwnS e' sz' v' (l.map f)) := by
  subst ho
  exact SN.piece en hx m hm
theorem Sat.pick {A : HP} (m : Nat) {M R : List HP} {h : PH} (hm : M[m]? = some A) (s : Sat (M ++ R) h) : Sat (A :: (M.set m hpT ++ R)) h := Sat.takeSet hm s
/-- A part of an element is taken out for good. -/
theorem Sat.takeN {A : HP} {h : PH} {i : Int} {x y : α} (m : Nat) (hx : idx xs i = some x) (hm : (T.d x (gr gs i.toNat))[m]? = some A) (hk : T.k y (gr gs i.toNat) = T.k x (gr gs i.toNat)) (hd : T.d y (gr gs i.toNat) = (T.d x (gr gs i.toNat)).set m hpT)
    (s : Sat (SN e sz T v gs xs :: L) h) : Sat (A :: SN e sz T v gs (xs.set i.toNat y) :: L) h := by
  obtain ⟨_, q⟩ := idx_spec hx
  obtain ⟨h1, h2, d, s1, s2, a, r⟩ := Sat.pick m hm (Sat.openN hx s)
  rw [← hd] at r
  have := Sat.closeN (gr gs i.toNat) y hk (List.getElem?_eq_some_iff.1 q).1 r
  rw [gr_same] at this
  exact ⟨h1, h2, d, s1, s2, a, this⟩
theorem Sat.takeM {β : Type} {e' sz' : Nat} {v' : Value} {f : β → List Value} {h : PH} {i : Int} {x y : α} {o : Option (List β)} {l : List β} (m : Nat) (hx : idx xs i = some x) (hm : (T.d x (gr gs i.toNat))[m]? = some (OwnM e' sz' v' f o)) (ho : o = some l)
    (hk : T.k y (gr gs i.toNat) = T.k x (gr gs i.toNat)) (hd : T.d y (gr gs i.toNat) = (T.d x (gr gs i.toNat)).set m hpT)
    (s : Sat (SN e sz T v gs xs :: L) h) : Sat (OwnS e' sz' v' (l.map f) :: SN e sz T v gs (xs.set i.toNat y) :: L) h := by
  subst ho
  exact Sat.takeN m hx hm hk hd s
/-- The same slice, told otherwise. -/
theorem Sat.asN {β : Type} {T' : NT β} {φ : α → β} {h : PH} (hk : ∀ x c, T'.k (φ x) c = T.k x c) (hd : ∀ x c, T'.d (φ x) c = T.d x c) (s : Sat (SN e sz T v gs xs :: L) h) : Sat (SN e sz T' v gs (xs.map φ) :: L) h := by
  obtain ⟨hl, s⟩ := SN.flat s
  refine SN.bag (by rw [List.length_map]; exact hl) ?_
  have e1 : cellsN T' gs (xs.map φ) = cellsN T gs xs := by
    unfold cellsN; rw [List.zipWith_map_left]; exact congrArg (fun k => List.zipWith k xs gs) (funext fun x => funext fun c => hk x c)
  have e2 : piecesN T' gs (xs.map φ) = piecesN T gs xs := by
    unfold piecesN; rw [List.zipWith_map_left]; exact congrArg (fun k => List.zipWith k xs gs) (funext fun x => funext fun c => by rw [hd])
  rw [e1, e2]; exact s
end
end Go.Bk
