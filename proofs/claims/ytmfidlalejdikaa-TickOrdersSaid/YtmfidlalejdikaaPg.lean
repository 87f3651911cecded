/-
  Plain laws on sets of bits that grow, and on what can be reached in a graph of words. Nothing of any program stands here.
-/
import Derived.Test.YtmfidlalejdikaaPw
namespace Go.Bk
open Go
set_option linter.unusedVariables false
set_option linter.unusedSimpArgs false
abbrev W32 := BitVec 32

/-! Sets. -/
def le (s t : W32) : Prop := ∀ b, s.getLsbD b = true → t.getLsbD b = true
theorem le_rfl (s : W32) : le s s := fun _ h => h
theorem le_trans {s t u : W32} (h : le s t) (k : le t u) : le s u := fun b x => k b (h b x)
theorem le_or (s m : W32) : le s (s ||| m) := fun b h => by simp [h]
theorem le_antisymm {s t : W32} (h : le s t) (k : le t s) : s = t := BitVec.eq_of_getLsbD_eq fun i _ => by
  cases x : s.getLsbD i <;> cases y : t.getLsbD i
  · rfl
  · have := k i y; rw [x] at this; cases this
  · have := h i x; rw [y] at this; cases this
  · rfl
def lim (n : Nat) (s : W32) : Prop := ∀ b, s.getLsbD b = true → b < n
def cnt (n : Nat) (s : W32) : Nat := (List.range n).countP (fun b => s.getLsbD b)
theorem countP_lt {α : Type} (p q : α → Bool) : ∀ (l : List α), (∀ x ∈ l, p x = true → q x = true) → (∃ x ∈ l, p x = false ∧ q x = true) → l.countP p < l.countP q
  | [], _, ⟨x, hx, _⟩ => by simp at hx
  | a :: l, h, ⟨x, hx, hp, hq⟩ => by
    have hle : l.countP p ≤ l.countP q := List.countP_mono_left fun y hy => h y (List.mem_cons_of_mem a hy)
    rw [List.countP_cons, List.countP_cons]
    rcases List.mem_cons.1 hx with e | e
    · subst e; rw [hp, hq]; simp; omega
    · have := countP_lt p q l (fun y hy => h y (List.mem_cons_of_mem a hy)) ⟨x, e, hp, hq⟩
      have ha := h a (by simp)
      cases c : p a <;> cases d : q a <;> simp_all <;> omega
theorem cnt_lt {n : Nat} {s t : W32} (h : le s t) (ht : lim n t) (hne : s ≠ t) : cnt n s < cnt n t := by
  refine countP_lt _ _ _ (fun x _ => h x) ?_
  apply Classical.byContradiction
  intro hno
  apply hne
  refine le_antisymm h fun b hb => ?_
  cases c : s.getLsbD b with
  | true => rfl
  | false => exact absurd ⟨b, by simpa using ht b hb, c, hb⟩ hno
theorem cnt_full {n : Nat} {s : W32} (h : n ≤ cnt n s) : ∀ b, b < n → s.getLsbD b = true := by
  have : (List.range n).countP (fun b => s.getLsbD b) = (List.range n).length := Nat.le_antisymm List.countP_le_length (by unfold cnt at h; rw [List.length_range]; exact h)
  have := List.countP_eq_length.1 this
  intro b hb; exact this b (by simpa using hb)

/-! Passes. -/
def stp (c : Nat → W32 → Bool) (m : Nat → W32) (s : W32) (j : Nat) : W32 := cond (c j s) (s ||| m j) s
def pass (n : Nat) (c : Nat → W32 → Bool) (m : Nat → W32) (s : W32) : W32 := (List.range n).foldl (stp c m) s
def iter (n : Nat) (c : Nat → W32 → Bool) (m : Nat → W32) (s : W32) : W32 := (List.range n).foldl (fun t _ => pass n c m t) s
section
variable {n : Nat} {c : Nat → W32 → Bool} {m : Nat → W32}
theorem stp_le (s : W32) (j : Nat) : le s (stp c m s j) := by unfold stp; cases c j s; exact le_rfl s; exact le_or s _
theorem foldl_le : ∀ (l : List Nat) (s : W32), le s (l.foldl (stp c m) s)
  | [], s => le_rfl s
  | j :: l, s => le_trans (stp_le s j) (foldl_le l _)
theorem foldl_fix : ∀ (l : List Nat) (s : W32), l.foldl (stp c m) s = s → ∀ j ∈ l, stp c m s j = s
  | [], s, _, j, hj => by simp at hj
  | i :: l, s, h, j, hj => by
    rw [List.foldl_cons] at h
    have h1 : stp c m s i = s := le_antisymm (by have := foldl_le (c := c) (m := m) l (stp c m s i); rw [h] at this; exact this) (stp_le s i)
    rcases List.mem_cons.1 hj with e | e
    · subst e; exact h1
    · rw [h1] at h; exact foldl_fix l s h j e
theorem foldl_inv {σ : Type} {f : σ → Nat → σ} {I : σ → Prop} : ∀ (l : List Nat) (s : σ), I s → (∀ j ∈ l, ∀ s, I s → I (f s j)) → I (l.foldl f s)
  | [], s, h, _ => h
  | j :: l, s, h, k => foldl_inv l _ (k j (by simp) s h) fun i hi => k i (List.mem_cons_of_mem j hi)
theorem pass_inv {I : W32 → Prop} {s : W32} (h : I s) (k : ∀ j, j < n → ∀ s, I s → c j s = true → I (s ||| m j)) : I (pass n c m s) :=
  foldl_inv _ s h fun j hj s hs => by
    unfold stp
    cases x : c j s with
    | true => exact k j (by simpa using hj) s hs x
    | false => exact hs
theorem iter_inv {I : W32 → Prop} {s : W32} (h : I s) (k : ∀ j, j < n → ∀ s, I s → c j s = true → I (s ||| m j)) : I (iter n c m s) :=
  foldl_inv _ s h fun _ _ s hs => pass_inv hs k
theorem lim_or {s t : W32} (h : lim n s) (k : lim n t) : lim n (s ||| t) := fun b hb => by
  rw [BitVec.getLsbD_or, Bool.or_eq_true] at hb; exact hb.elim (h b) (k b)
theorem pass_lim {s : W32} (h : lim n s) (hm : ∀ j, j < n → lim n (m j)) : lim n (pass n c m s) := pass_inv h fun j hj s hs _ => lim_or hs (hm j hj)
theorem iter_fix {s : W32} (hs : lim n s) (hm : ∀ j, j < n → lim n (m j)) : pass n c m (iter n c m s) = iter n c m s := by
  have key : ∀ k, let t := (List.range k).foldl (fun t _ => pass n c m t) s; lim n t ∧ (pass n c m t = t ∨ k ≤ cnt n t) := by
    intro k
    induction k with
    | zero => exact ⟨hs, .inr (Nat.zero_le _)⟩
    | succ k ih =>
      obtain ⟨h1, h2⟩ := ih
      rw [List.range_succ, List.foldl_append]
      simp only [List.foldl_cons, List.foldl_nil]
      refine ⟨pass_lim h1 hm, ?_⟩
      by_cases e : pass n c m ((List.range k).foldl (fun t _ => pass n c m t) s) = (List.range k).foldl (fun t _ => pass n c m t) s
      · left; rw [e]; exact e
      · right
        have := cnt_lt (foldl_le _ _) (pass_lim h1 hm) (Ne.symm e)
        have h3 := h2.resolve_left e
        simp only [pass] at *
        omega
  obtain ⟨h1, h2⟩ := key n
  rcases h2 with h2 | h2
  · exact h2
  · refine (le_antisymm (foldl_le _ _) fun b hb => ?_).symm
    exact cnt_full h2 b (pass_lim h1 hm b hb)
theorem iter_closed {s : W32} (hs : lim n s) (hm : ∀ j, j < n → lim n (m j)) {j : Nat} (hj : j < n) (hc : c j (iter n c m s) = true) : le (m j) (iter n c m s) := by
  have := foldl_fix (c := c) (m := m) (List.range n) _ (iter_fix hs hm) j (by simpa using hj)
  unfold stp at this
  rw [hc] at this
  intro b hb
  rw [← this]
  simp [hb]
theorem iter_le (s : W32) : le s (iter n c m s) := foldl_inv (I := fun t => le s t) _ s (le_rfl s) fun _ _ t ht => le_trans ht (foldl_le _ t)
end

section
variable {l : List W32}
def wd (l : List W32) (j : Nat) : W32 := l.getD j 0#32
theorem get_wd {j : Nat} (h : j < l.length) : l[j]? = some (wd l j) := by simp [wd, List.getD_eq_getElem?_getD, List.getElem?_eq_getElem h]

def cR (j : Nat) (s : W32) : Bool := s.getLsbD j
def R (l : List W32) (i : Nat) : W32 := iter l.length cR (wd l) (wd l i)
variable (hw : ∀ j, j < l.length → lim l.length (wd l j))
include hw in
theorem R_lim {i : Nat} (hi : i < l.length) : lim l.length (R l i) := iter_inv (I := lim l.length) (hw i hi) fun j hj s hs _ => lim_or hs (hw j hj)
include hw in
theorem R_step {i j : Nat} (hi : i < l.length) (hj : (R l i).getLsbD j = true) : le (wd l j) (R l i) :=
  iter_closed (hw i hi) hw (R_lim hw hi j hj) hj
theorem R_base {i : Nat} : le (wd l i) (R l i) := iter_le _
theorem R_least {i : Nat} (hi : i < l.length) (S : Nat → Prop) (h0 : ∀ b, (wd l i).getLsbD b = true → S b) (h1 : ∀ j, j < l.length → S j → ∀ b, (wd l j).getLsbD b = true → S b) : ∀ b, (R l i).getLsbD b = true → S b :=
  iter_inv (I := fun s => ∀ b, s.getLsbD b = true → S b) h0 fun j hj s hs hc b hb => by
    rw [BitVec.getLsbD_or, Bool.or_eq_true] at hb
    exact hb.elim (hs b) (h1 j hj (hs j hc) b)
include hw in
theorem R_trans {i j : Nat} (hi : i < l.length) (hj : j < l.length) (h : (R l i).getLsbD j = true) : le (R l j) (R l i) :=
  R_least hj (fun b => (R l i).getLsbD b = true) (R_step hw hi h) fun k hk h1 => R_step hw hi h1
include hw in
theorem R_first {b k : Nat} (hb : b < l.length) (h : (R l b).getLsbD k = true) : ∃ c, (wd l b).getLsbD c = true ∧ (c = k ∨ (R l c).getLsbD k = true) :=
  R_least hb (fun b' => ∃ c, (wd l b).getLsbD c = true ∧ (c = b' ∨ (R l c).getLsbD b' = true)) (fun b hb => ⟨b, hb, .inl rfl⟩) (fun d hd ⟨c, hc, h⟩ b' hb' => by
    refine ⟨c, hc, .inr ?_⟩
    rcases h with h | h
    · subst h; exact R_base b' hb'
    · exact R_step hw (hw b hb c hc) h b' hb') k h
include hw in
/-- Who is low goes, again and again: all go just if nobody comes to itself. -/
theorem gone_iff (S : Nat → W32) (h0 : S 0 = 0#32) (hS : ∀ t b, b < l.length → ((S (t + 1)).getLsbD b = true ↔ ∀ c, (wd l b).getLsbD c = true → (S t).getLsbD c = true)) :
    (∀ b, b < l.length → (S l.length).getLsbD b = true) ↔ ∀ i, i < l.length → (R l i).getLsbD i = false := by
  constructor
  · intro hall i hi
    cases x : (R l i).getLsbD i with
    | false => rfl
    | true =>
      exfalso
      have key : ∀ t b, b < l.length → (b = i ∨ (R l b).getLsbD i = true) → (S t).getLsbD b = false := by
        intro t
        induction t with
        | zero => intro b _ _; rw [h0]; simp
        | succ t ih =>
          intro b hb h
          have hbi : (R l b).getLsbD i = true := by
            rcases h with h | h
            · subst h; exact x
            · exact h
          obtain ⟨c, hc, h2⟩ := R_first hw hb hbi
          have := ih c (hw b hb c hc) h2
          cases y : (S (t + 1)).getLsbD b with
          | false => rfl
          | true => rw [(hS t b hb).1 y c hc] at this; cases this
      have := key l.length i hi (.inl rfl)
      rw [hall i hi] at this; cases this
  · intro hno b hb
    cases x : (S l.length).getLsbD b with
    | true => rfl
    | false =>
      exfalso
      have key : ∀ t b, b < l.length → (S t).getLsbD b = false → t ≤ cnt l.length (R l b) := by
        intro t
        induction t with
        | zero => intro b _ _; omega
        | succ t ih =>
          intro b hb h
          have : ∃ c, (wd l b).getLsbD c = true ∧ (S t).getLsbD c = false := by
            apply Classical.byContradiction
            intro hn
            have : (S (t + 1)).getLsbD b = true := (hS t b hb).2 fun c hc => by
              cases y : (S t).getLsbD c with
              | true => rfl
              | false => exact absurd ⟨c, hc, y⟩ hn
            rw [h] at this; cases this
          obtain ⟨c, hc, h2⟩ := this
          have hcl := hw b hb c hc
          have h3 := ih c hcl h2
          have hRc := R_base (l := l) (i := b) c hc
          have h4 := cnt_lt (R_trans hw hb hcl hRc) (R_lim hw hb) (fun e => by have := hno c hcl; rw [e] at this; rw [hRc] at this; cases this)
          omega
      have := cnt_full (key l.length b hb x) b hb
      rw [hno b hb] at this; cases this
end
end Go.Bk
