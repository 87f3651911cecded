/-
  A slice of structs of which one element is out: the others may be read; an element that goes back with its ghosts. Nothing of any program stands here.
-/
import Derived.Test.YtgofkfhkolkfmaaBk36
namespace Go.Bk
open Go
set_option linter.unusedVariables false
set_option linter.unusedSimpArgs false
/-- Two places that are not the same: none where they are. -/
def neI (i j : Int) : Option Unit := if i.toNat = j.toNat then none else some ()
theorem neI_spec {i j : Int} {u : Unit} (h : neI i j = some u) : i.toNat ≠ j.toNat := by
  unfold neI at h
  split at h
  · cases h
  · assumption
theorem SNh.beside {α : Type} {e sz : Nat} {T : NT α} {v : Value} {gs : List (List Value)} {xs : List α} {L : List HP} {A : HP} {i : Nat} {j : Int} {x : α} {cs : List Value} (en : Ent L (SNh e sz T v gs xs i cs)) (hx : idx xs j = some x) (hne : i ≠ j.toNat) (m : Nat)
    (hm : (T.d x (gr gs j.toNat))[m]? = some A) : Ent L A :=
  G.at m hm (en.imp fun h ⟨hl, s⟩ => by
    have := pieces_get (T := T) hl hx
    exact Ent.at (A := G (T.d x (gr gs j.toNat))) (j.toNat + 1) (by rw [List.getElem?_cons_succ, List.getElem?_set_ne hne]; exact this) h s)
theorem gr_same {gs : List (List Value)} {i : Nat} : gs.set i (gr gs i) = gs := by
  apply List.ext_getElem?
  intro j
  rw [List.getElem?_set]
  by_cases c : i = j
  · subst c
    by_cases h : i < gs.length
    · rw [if_pos rfl, if_pos h, gr_get h]
    · rw [if_pos rfl, if_neg h, List.getElem?_eq_none (by omega)]
  · rw [if_neg c]
theorem TO.closeNs {P : Program} {N : Nat} {B : World} {E : Env} {L : List HP} {ops : Array Oper} {Q : Act → World → Prop} {α : Type} {e sz : Nat} {T : NT α} {v : Value} {gs : List (List Value)} {xs : List α}
    {L0 : List HP} {l : List Oper} {i : Int} {x : α} {cs : List Value} (y : α) (hL : L0 = T.d y (gr gs i.toNat) ++ SNh e sz T v gs xs i.toNat cs :: L) (hk : T.k y (gr gs i.toNat) = cs) (hx : idx xs i = some x) {ys : List α} (hY : some (xs.set i.toNat y) = some ys)
    (h : TO P N B ops l E (SN e sz T v gs ys :: L) Q) : TO P N B ops l E L0 Q := by
  subst hL
  obtain rfl := Option.some.inj hY
  obtain ⟨_, q⟩ := idx_spec hx
  refine TO.ghost (fun _ s => ?_) h
  have := Sat.closeN (gr gs i.toNat) y hk (List.getElem?_eq_some_iff.1 q).1 s
  rw [gr_same] at this
  exact this
theorem idx_seto {α : Type} {xs ys : List α} {i : Int} {x y : α} (h : idx xs i = some x) (hs : some (xs.set i.toNat y) = some ys) : idx ys i = some y := by
  obtain rfl := Option.some.inj hs
  obtain ⟨h0, h1⟩ := idx_spec h
  obtain ⟨n, rfl⟩ := Int.eq_ofNat_of_zero_le h0
  rw [idx_nat]
  simp only [Int.toNat_natCast] at h1 ⊢
  exact List.getElem?_set_self (List.getElem?_eq_some_iff.1 h1).1
end Go.Bk
