/-
  Plain laws on slices.DeleteFunc with a test that is pure on the list. Nothing of any program stands here.
-/
import Derived.Test.YtmfidlalejdikaaPw
import Derived.Test.YtmfidlalejdikaaBk7
namespace Go.Bk
open Go
set_option linter.unusedVariables false
set_option linter.unusedSimpArgs false

def delBody {α : Type} (a1 : α → Option Bool) : ((List α) × Int × Int) → Option (Ctl ((List α) × Int × Int) ((List α) × Int) (Unit)) := fun (y6, x8, x9) =>
  cond ((decide (x9 < (y6.length : Int))))
  (Option.bind (α := (List α) × Int) (Option.bind (idx y6 x9) fun x25 =>
  Option.bind (a1 x25) fun r28 =>
  cond ((!r28))
  (Option.bind (idx y6 x8) fun x31 =>
  some (y6.set x8.toNat x25, w64 (x8 + 1)))
  (some (y6, x8)))
  fun (y21, x23) =>
  some (.nxt (y21, x23, w64 (x9 + 1))))
  (some (.brk (y6, x8)))
def idxBody {α : Type} (a0 : List α) (a1 : α → Option Bool) : Int → Option (Ctl (Int) (Unit) (Int)) := fun x1 =>
  cond ((decide (x1 < (a0.length : Int))))
  (Option.bind (idx a0 x1) fun x7 =>
  Option.bind (a1 x7) fun r9 =>
  cond (r9)
  (some (.ret x1))
  (some (.nxt (w64 (x1 + 1)))))
  (some (.brk ()))
section
variable {α : Type} {t : α → Option Bool} {p : α → Bool}

theorem del_while : ∀ (r F mid : List α), (∀ x ∈ r, t x = some (p x)) → mid ≠ [] → (F ++ mid ++ r).length ≤ 9223372036854775807 →
    ∃ mid', whileM (delBody t) (F ++ mid ++ r, (F.length : Int), ((F ++ mid).length : Int)) = some (.brk (F ++ r.filter (fun x => !p x) ++ mid', ((F ++ r.filter (fun x => !p x)).length : Int)))
  | [], F, mid, _, _, _ => ⟨mid, by
      have h : delBody t (F ++ mid ++ [], (F.length : Int), ((F ++ mid).length : Int)) = some (.brk (F ++ mid, (F.length : Int))) := by simp [delBody]
      rw [whileM_brk h]; simp⟩
  | x :: r, F, mid, ht, hm, hl => by
    have hl' : F.length + mid.length + (r.length + 1) ≤ 9223372036854775807 := by simp at hl; omega
    obtain ⟨m0, mt, rfl⟩ : ∃ m0 mt, mid = m0 :: mt := by cases mid with | nil => exact absurd rfl hm | cons a b => exact ⟨a, b, rfl⟩
    simp only [List.length_cons] at hl'
    have hx := ht x (by simp)
    have g1 : (F ++ m0 :: mt ++ x :: r)[(F ++ m0 :: mt).length]? = some x := by rw [List.getElem?_append_right (Nat.le_refl _)]; simp
    have g2 : (F ++ m0 :: mt ++ x :: r)[F.length]? = some m0 := by rw [List.append_assoc, List.getElem?_append_right (Nat.le_refl _)]; simp
    have hlt : (((F ++ m0 :: mt).length : Nat) : Int) < ((F ++ m0 :: mt ++ x :: r).length : Int) := by simp; omega
    have hw1 : w64 (((F ++ m0 :: mt).length : Int) + 1) = ((F ++ m0 :: mt ++ [x]).length : Int) := by
      rw [w64_succ (n := 9223372036854775807) (by simp; omega) (Nat.le_refl _)]; simp; omega
    have hw2 : w64 ((F.length : Int) + 1) = ((F ++ [x]).length : Int) := by rw [w64_succ (n := 9223372036854775807) (by omega) (Nat.le_refl _)]; simp
    cases hp : p x with
    | true =>
      have hb : delBody t (F ++ m0 :: mt ++ x :: r, (F.length : Int), ((F ++ m0 :: mt).length : Int)) = some (.nxt (F ++ (m0 :: mt ++ [x]) ++ r, (F.length : Int), ((F ++ (m0 :: mt ++ [x])).length : Int))) := by
        unfold delBody
        simp only [idx_some g1, hx, hp, Option.bind_some, decide_eq_true hlt, cond_true, Bool.not_true, cond_false, hw1]
        simp
      obtain ⟨mid', h⟩ := del_while r F (m0 :: mt ++ [x]) (fun y hy => ht y (by simp [hy])) (by simp) (by simp; omega)
      refine ⟨mid', ?_⟩
      rw [whileM_nxt hb, h]
      simp [hp]
    | false =>
      have hset : (F ++ m0 :: mt ++ x :: r).set F.length x = (F ++ [x]) ++ (mt ++ [x]) ++ r := by
        rw [List.append_assoc, List.set_append_right _ _ (Nat.le_refl _)]; simp
      have hb : delBody t (F ++ m0 :: mt ++ x :: r, (F.length : Int), ((F ++ m0 :: mt).length : Int)) = some (.nxt ((F ++ [x]) ++ (mt ++ [x]) ++ r, ((F ++ [x]).length : Int), ((F ++ [x] ++ (mt ++ [x])).length : Int))) := by
        unfold delBody
        simp only [idx_some g1, idx_some g2, hx, hp, Option.bind_some, decide_eq_true hlt, cond_true, Bool.not_false, hw1, hw2, Int.toNat_natCast, hset]
        simp <;> omega
      obtain ⟨mid', h⟩ := del_while r (F ++ [x]) (mt ++ [x]) (fun y hy => ht y (by simp [hy])) (by simp) (by simp; omega)
      refine ⟨mid', ?_⟩
      rw [whileM_nxt hb, h]
      simp [hp]
/-- The first that meets the test. -/
theorem idx_while {l : List α} (hl : l.length ≤ 9223372036854775807) (ht : ∀ x ∈ l, t x = some (p x)) :
    whileM (idxBody l t) 0 = some (found () (scan (fun k x => if p x = true then some (k : Int) else none) l 0)) := by
  refine while_scan hl _ (fun k e h => ?_) (by simp [idxBody])
  have hk := lt_of_get h
  have := ht e (List.mem_of_getElem? h)
  cases c : p e <;> simp [idxBody, idx_some h, hk, going, this, c]
theorem del_scan {l : List α} (hl : l.length ≤ 9223372036854775807) (ht : ∀ x ∈ l, t x = some (p x)) : (scan (fun k x => if p x = true then some (k : Int) else none) l 0 = none → l.filter (fun x => !p x) = l) ∧
    ∀ r, scan (fun k x => if p x = true then some (k : Int) else none) l 0 = some r → 0 ≤ r ∧ ∃ mid', whileM (delBody t) (l, r, w64 (r + 1)) = some (.brk (l.filter (fun x => !p x) ++ mid', ((l.filter (fun x => !p x)).length : Int))) ∧ (l.filter (fun x => !p x) ++ mid').length = l.length := by
  constructor
  · intro h
    rw [List.filter_eq_self]
    intro x hx
    obtain ⟨i, hi⟩ := List.getElem?_of_mem hx
    have := scan_none.1 h i x hi
    cases c : p x with
    | false => rfl
    | true => rw [c] at this; simp at this
  · intro r h
    -- the first one
    have key : ∀ (l : List α) (k : Nat), scan (fun k x => if p x = true then some (k : Int) else none) l k = some r → ∃ A x B, l = A ++ x :: B ∧ r = ((k + A.length : Nat) : Int) ∧ (∀ y ∈ A, p y = false) ∧ p x = true := by
      intro l
      induction l with
      | nil => intro k h; simp [scan] at h
      | cons y l ih =>
        intro k h
        unfold scan at h
        cases c : p y with
        | true => rw [if_pos c] at h; simp at h; exact ⟨[], y, l, rfl, by simp [h], by simp, c⟩
        | false =>
          rw [c] at h
          simp at h
          obtain ⟨A, x, B, h1, h2, h3, h4⟩ := ih (k + 1) h
          refine ⟨y :: A, x, B, by simp [h1], by rw [h2]; simp; omega, ?_, h4⟩
          intro z hz
          rcases List.mem_cons.1 hz with e | e
          · subst e; exact c
          · exact h3 z e
    obtain ⟨A, x, B, rfl, h2, h3, h4⟩ := key l 0 h
    simp only [Nat.zero_add] at h2
    subst h2
    refine ⟨by omega, ?_⟩
    have hA : A.filter (fun x => !p x) = A := by rw [List.filter_eq_self]; intro y hy; rw [h3 y hy]; rfl
    have hlen : A.length + (B.length + 1) ≤ 9223372036854775807 := by simpa using hl
    obtain ⟨mid', h⟩ := del_while (t := t) (p := p) B A [x] (fun y hy => ht y (by simp [hy])) (by simp) (by simp; omega)
    have hw : w64 ((A.length : Int) + 1) = ((A ++ [x]).length : Int) := by rw [w64_succ (n := 9223372036854775807) (by omega) (Nat.le_refl _)]; simp
    have hf : (A ++ x :: B).filter (fun x => !p x) = A ++ B.filter (fun x => !p x) := by rw [List.filter_append, hA, List.filter_cons]; simp [h4]
    refine ⟨mid', ?_, ?_⟩
    · rw [hw, hf]
      have e : A ++ x :: B = A ++ [x] ++ B := by simp
      rw [e]; exact h
    · rw [hf]
      -- lengths stay
      have hst : ∀ (r F mid : List α), (∀ x ∈ r, t x = some (p x)) → mid ≠ [] → (F ++ mid ++ r).length ≤ 9223372036854775807 → ∀ y i, whileM (delBody t) (F ++ mid ++ r, (F.length : Int), ((F ++ mid).length : Int)) = some (.brk (y, i)) → y.length = (F ++ mid ++ r).length := by
        intro r
        induction r with
        | nil =>
          intro F mid _ _ _ y i hh
          have h : delBody t (F ++ mid ++ [], (F.length : Int), ((F ++ mid).length : Int)) = some (.brk (F ++ mid, (F.length : Int))) := by simp [delBody]
          rw [whileM_brk h] at hh
          simp at hh
          rw [← hh.1]; simp
        | cons x r ih =>
          intro F mid ht hm hl y i hh
          have hl' : F.length + mid.length + (r.length + 1) ≤ 9223372036854775807 := by simp at hl; omega
          obtain ⟨m0, mt, rfl⟩ : ∃ m0 mt, mid = m0 :: mt := by cases mid with | nil => exact absurd rfl hm | cons a b => exact ⟨a, b, rfl⟩
          simp only [List.length_cons] at hl'
          have hx := ht x (by simp)
          have g1 : (F ++ m0 :: mt ++ x :: r)[(F ++ m0 :: mt).length]? = some x := by rw [List.getElem?_append_right (Nat.le_refl _)]; simp
          have g2 : (F ++ m0 :: mt ++ x :: r)[F.length]? = some m0 := by rw [List.append_assoc, List.getElem?_append_right (Nat.le_refl _)]; simp
          have hlt : (((F ++ m0 :: mt).length : Nat) : Int) < ((F ++ m0 :: mt ++ x :: r).length : Int) := by simp; omega
          have hw1 : w64 (((F ++ m0 :: mt).length : Int) + 1) = ((F ++ m0 :: mt ++ [x]).length : Int) := by
            rw [w64_succ (n := 9223372036854775807) (by simp; omega) (Nat.le_refl _)]; simp; omega
          have hw2 : w64 ((F.length : Int) + 1) = ((F ++ [x]).length : Int) := by rw [w64_succ (n := 9223372036854775807) (by omega) (Nat.le_refl _)]; simp
          cases hp : p x with
          | true =>
            have hb : delBody t (F ++ m0 :: mt ++ x :: r, (F.length : Int), ((F ++ m0 :: mt).length : Int)) = some (.nxt (F ++ (m0 :: mt ++ [x]) ++ r, (F.length : Int), ((F ++ (m0 :: mt ++ [x])).length : Int))) := by
              unfold delBody
              simp only [idx_some g1, hx, hp, Option.bind_some, decide_eq_true hlt, cond_true, Bool.not_true, cond_false, hw1]
              simp
            rw [whileM_nxt hb] at hh
            have := ih F (m0 :: mt ++ [x]) (fun y hy => ht y (by simp [hy])) (by simp) (by simp; omega) y i hh
            rw [this]; simp
          | false =>
            have hset : (F ++ m0 :: mt ++ x :: r).set F.length x = (F ++ [x]) ++ (mt ++ [x]) ++ r := by
              rw [List.append_assoc, List.set_append_right _ _ (Nat.le_refl _)]; simp
            have hb : delBody t (F ++ m0 :: mt ++ x :: r, (F.length : Int), ((F ++ m0 :: mt).length : Int)) = some (.nxt ((F ++ [x]) ++ (mt ++ [x]) ++ r, ((F ++ [x]).length : Int), ((F ++ [x] ++ (mt ++ [x])).length : Int))) := by
              unfold delBody
              simp only [idx_some g1, idx_some g2, hx, hp, Option.bind_some, decide_eq_true hlt, cond_true, Bool.not_false, hw1, hw2, Int.toNat_natCast, hset]
              simp <;> omega
            rw [whileM_nxt hb] at hh
            have := ih (F ++ [x]) (mt ++ [x]) (fun y hy => ht y (by simp [hy])) (by simp) (by simp; omega) y i hh
            rw [this]; simp <;> omega
      have := hst B A [x] (fun y hy => ht y (by simp [hy])) (by simp) (by simp; omega) _ _ h
      rw [this]; simp
/-- The whole of DeleteFunc. -/
theorem del_val (l : List α) (z : α) (hl : l.length ≤ 9223372036854775807) (ht : ∀ x ∈ l, t x = some (p x)) {F90 : List α → (α → Option Bool) → Option Int}
    (h90 : F90 l t = Option.bind (whileM (idxBody l t) 0) fun o3 => Ctl.on o3 (fun _ => some (-1)) (fun r => some r)) :
    (Option.bind (F90 l t) fun r3 =>
      cond ((r3 == (-1)))
      (some l)
      (Option.bind (whileM (delBody t) (l, r3, w64 (r3 + 1))) fun o17 => Ctl.on o17 (fun (y14, x16) =>
      Option.bind (slI y14 x16 (y14.length : Int)) fun y33 =>
      Option.bind (slI (y14.take x16.toNat ++ List.replicate (y14.length - x16.toNat) z) 0 x16) fun y36 =>
      some y36) (fun _ => none))) = some (l.filter (fun x => !p x)) := by
  obtain ⟨d1, d2⟩ := del_scan hl ht
  rw [h90, idx_while hl ht]
  cases hs : scan (fun k x => if p x = true then some (k : Int) else none) l 0 with
  | none => simp [found, Ctl.on, d1 hs]
  | some r =>
    obtain ⟨h0, mid', hw, hlen⟩ := d2 r hs
    have hne : (r == (-1)) = false := by simpa using (by omega : ¬ r = -1)
    simp only [found, Ctl.on, Option.bind_some, hne, cond_false, hw]
    generalize hF : l.filter (fun x => !p x) = F at *
    have e1 : slI (F ++ mid') (F.length : Int) ((F ++ mid').length : Int) = some (((F ++ mid').take ((F ++ mid').length : Int).toNat).drop (F.length : Int).toNat) := by unfold slI; rw [if_pos ⟨by omega, by simp; omega, by omega⟩]
    have e2 : slI ((F ++ mid').take (F.length : Int).toNat ++ List.replicate ((F ++ mid').length - (F.length : Int).toNat) z) 0 (F.length : Int) = some F := by
      unfold slI; rw [if_pos ⟨by omega, by omega, by simp; omega⟩]; simp
    rw [e1]
    simp only [Option.bind_some, e2]
end
end Go.Bk
