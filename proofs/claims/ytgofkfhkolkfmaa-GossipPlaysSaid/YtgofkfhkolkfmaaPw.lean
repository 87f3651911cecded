/-
  Plain laws on words of 32 bits: no program stands here.
-/
import Derived.Test.YtgofkfhkolkfmaaPl
namespace Go.Bk
open Go
set_option linter.unusedVariables false
set_option linter.unusedSimpArgs false

theorem scan_const {α ρ : Type} {p : Nat → α → Bool} {r : ρ} : ∀ {l : List α} {k : Nat}, scan (fun k e => if p k e = true then some r else none) l k = (scan (fun k e => if p k e = true then some () else none) l k).map (fun _ => r)
  | [], k => by simp [scan]
  | x :: l, k => by
    have ih := scan_const (p := p) (r := r) (l := l) (k := k + 1)
    simp only [scan, ih]
    by_cases h : p k x = true <;> simp [h]
theorem slI_take {α : Type} {l : List α} {k : Nat} (h : k < l.length) : slI l 0 (k : Int) = some (l.take k) := by unfold slI; rw [if_pos ⟨by omega, by omega, by omega⟩]; simp
theorem any_or {α : Type} (p q : α → Bool) : ∀ (l : List α), (l.any p || l.any q) = l.any (fun x => p x || q x)
  | [] => rfl
  | x :: l => by rw [List.any_cons, List.any_cons, List.any_cons, ← any_or p q l]; cases p x <;> cases q x <;> cases l.any p <;> cases l.any q <;> rfl
theorem bit_one {i b : Nat} (hi : i < 32) : (1#32 <<< i).getLsbD b = decide (b = i) := by
  rw [BitVec.getLsbD_shiftLeft]
  by_cases h : b = i
  · subst h; simp [hi]
  · by_cases h1 : b < i
    · simp [h, h1]
    · have : (1#32).getLsbD (b - i) = false := by
        have : b - i ≠ 0 := by omega
        simp [BitVec.getLsbD_one, this]
      simp [h, this]
theorem ones_bit : ∀ n, n < 7 → ∀ b, b < 32 → ((1#32 <<< n) - 1#32).getLsbD b = decide (b < n) := by decide +kernel
/-- Bits that are set one by one, by '+'. -/
theorem fold_plus (Q : Nat → Bool) : ∀ n, n ≤ 32 → ∀ b, ((List.range n).foldl (fun t k => cond (Q k) (t + (1#32 <<< k)) t) 0#32).getLsbD b = (decide (b < n) && Q b)
  | 0, _, b => by simp
  | n + 1, hn, b => by
    rw [List.range_succ, List.foldl_append]
    simp only [List.foldl_cons, List.foldl_nil]
    have ih := fold_plus Q n (by omega)
    cases c : Q n with
    | true =>
      have hz : ((List.range n).foldl (fun t k => cond (Q k) (t + (1#32 <<< k)) t) 0#32) &&& (1#32 <<< n) = 0#32 := by
        apply BitVec.eq_of_getLsbD_eq
        intro i _
        rw [BitVec.getLsbD_and, ih, bit_one (by omega)]
        by_cases e : i = n
        · subst e; simp
        · simp [e]
      rw [cond_true, BitVec.add_eq_or_of_and_eq_zero _ _ hz, BitVec.getLsbD_or, ih, bit_one (by omega)]
      by_cases e : b = n
      · subst e; simp [c]
      · have : (b < n + 1) ↔ (b < n) := by omega
        simp [e, this]
    | false =>
      rw [cond_false, ih]
      by_cases e : b = n
      · subst e; simp [c]
      · have : (b < n + 1) ↔ (b < n) := by omega
        simp [this]
/-- Bits that are taken out one by one. -/
theorem fold_out {α : Type} (f : α → Nat) : ∀ (l : List α) (s : BitVec 32), (∀ x ∈ l, f x < 32) → ∀ b, (l.foldl (fun t x => t &&& ~~~(1#32 <<< f x)) s).getLsbD b = (s.getLsbD b && l.all (fun x => decide (f x ≠ b)))
  | [], s, _, b => by simp
  | x :: l, s, h, b => by
    rw [List.foldl_cons, fold_out f l _ (fun y hy => h y (List.mem_cons_of_mem x hy)), List.all_cons, BitVec.getLsbD_and, BitVec.getLsbD_not, bit_one (h x (by simp))]
    by_cases hb : b < 32
    · by_cases e : b = f x
      · subst e; simp
      · have : f x ≠ b := fun q => e q.symm
        simp [hb, e, this]
    · have : s.getLsbD b = false := BitVec.getLsbD_of_ge s b (by omega)
      simp [this]
theorem foldl_zip {α σ : Type} (g : α → σ → σ) : ∀ (l : List α) (k : Nat) (s : σ), (l.zipIdx k).foldl (fun t e => g e.1 t) s = l.foldl (fun t x => g x t) s
  | [], _, _ => rfl
  | x :: l, k, s => by rw [List.zipIdx_cons, List.foldl_cons, List.foldl_cons, foldl_zip g l]
/-- A loop of n rounds with a state of which something stays true. -/
theorem while_foldI {σ τ β ρ : Type} {body : σ → Option (Ctl σ β ρ)} (S : Nat → τ → σ) (n : Nat) (g : Nat → τ → τ) (out : τ → β) (I : Nat → τ → Prop) (t : τ) (h0 : I 0 t)
    (hstep : ∀ k t, k < n → I k t → body (S k t) = some (.nxt (S (k + 1) (g k t))) ∧ I (k + 1) (g k t)) (hend : ∀ t, I n t → body (S n t) = some (.brk (out t))) :
    whileM body (S 0 t) = some (.brk (out ((List.range n).foldl (fun t k => g k t) t))) ∧ I n ((List.range n).foldl (fun t k => g k t) t) := by
  have key : ∀ m k t, k + m = n → I k t → whileM body (S k t) = some (.brk (out ((List.range' k m).foldl (fun t k => g k t) t))) ∧ I n ((List.range' k m).foldl (fun t k => g k t) t) := by
    intro m
    induction m with
    | zero =>
      intro k t hk hI
      have : k = n := by omega
      subst this
      rw [whileM_brk (hend t hI)]
      simpa using hI
    | succ m ih =>
      intro k t hk hI
      obtain ⟨h1, h2⟩ := hstep k t (by omega) hI
      rw [whileM_nxt h1, List.range'_succ, List.foldl_cons]
      exact ih (k + 1) _ (by omega) h2
  have := key n 0 t (by omega) h0
  rwa [← List.range_eq_range'] at this
theorem and_bit {w : BitVec 32} {j : Nat} (hj : j < 32) : ((w &&& (1#32 <<< j)) != 0#32) = w.getLsbD j := by
  rw [Bool.eq_iff_iff, bne_iff_ne]
  constructor
  · intro h
    cases c : w.getLsbD j with
    | true => rfl
    | false =>
      exfalso; apply h
      apply BitVec.eq_of_getLsbD_eq
      intro i hi
      rw [BitVec.getLsbD_and, bit_one hj]
      by_cases e : i = j
      · subst e; simp [c]
      · simp [e]
  · intro h e
    have := congrArg (fun x => x.getLsbD j) e
    simp only [BitVec.getLsbD_and, bit_one hj, h] at this
    simp at this
theorem and_one (s : BitVec 32) (k : Nat) : ((s >>> k) &&& 1#32) = cond (s.getLsbD k) 1#32 0#32 := by
  apply BitVec.eq_of_getLsbD_eq
  intro i hi
  rw [BitVec.getLsbD_and, BitVec.getLsbD_ushiftRight, BitVec.getLsbD_one]
  by_cases e : i = 0
  · subst e; cases c : s.getLsbD k <;> simp [c]
  · cases c : s.getLsbD k <;> simp [e, BitVec.getLsbD_one]
end Go.Bk
