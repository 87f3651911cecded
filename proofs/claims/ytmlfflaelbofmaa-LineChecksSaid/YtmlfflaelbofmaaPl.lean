/-
  Plain laws on loops of the models: no program stands here.
-/
import Derived.Test.YtmlfflaelbofmaaBk5
namespace Go.Bk
open Go
set_option linter.unusedVariables false
set_option linter.unusedSimpArgs false

theorem w64_succ {k n : Nat} (h : k < n) (hn : n ≤ 9223372036854775807) : w64 ((k : Int) + 1) = ((k + 1 : Nat) : Int) := by rw [w64_of (by omega) (by omega)]; push_cast; rfl
theorem idx_some {α : Type} {l : List α} {k : Nat} {x : α} (h : l[k]? = some x) : idx l (k : Int) = some x := by rw [idx_nat, h]
theorem lt_of_get {α : Type} {l : List α} {k : Nat} {x : α} (h : l[k]? = some x) : k < l.length := (List.getElem?_eq_some_iff.1 h).1

/-- Rounds 0 .. n-1 go on, round n leaves. -/
theorem while_upto {σ β ρ : Type} {body : σ → Option (Ctl σ β ρ)} (S : Nat → σ) : ∀ (n : Nat) {c : Ctl σ β ρ}, (∀ k, k < n → body (S k) = some (.nxt (S (k + 1)))) → body (S n) = some c → (∀ s, c ≠ .nxt s) → whileM body (S 0) = some c := by
  intro n c h hn hc
  have key : ∀ m k, k + m = n → whileM body (S k) = some c := by
    intro m
    induction m with
    | zero =>
      intro k hk
      have : k = n := by omega
      subst this
      cases c with
      | nxt s => exact absurd rfl (hc s)
      | brk b => exact whileM_brk hn
      | ret r => exact whileM_ret hn
    | succ m ih => intro k hk; rw [whileM_nxt (h k (by omega))]; exact ih (k + 1) (by omega)
  exact key n 0 (by omega)

/-- The first element at which something is said. -/
def scan {α ρ : Type} (f : Nat → α → Option ρ) : List α → Nat → Option ρ
  | [], _ => none
  | e :: l, k => match f k e with
    | some r => some r
    | none => scan f l (k + 1)
theorem scan_none {α ρ : Type} {f : Nat → α → Option ρ} : ∀ {xs : List α} {k : Nat}, scan f xs k = none ↔ ∀ i e, xs[i]? = some e → f (k + i) e = none
  | [], k => by simp [scan]
  | x :: xs, k => by
    simp only [scan]
    constructor
    · intro h i e hi
      cases y : f k x with
      | some r => rw [y] at h; cases h
      | none =>
        rw [y] at h
        cases i with
        | zero => simp at hi; subst hi; exact y
        | succ i => have := scan_none.1 h i e (by simpa using hi); rwa [show k + 1 + i = k + (i + 1) by omega] at this
    · intro h
      have h0 := h 0 x (by simp)
      rw [Nat.add_zero] at h0
      rw [h0]
      exact scan_none.2 fun i e hi => by have := h (i + 1) e (by simpa using hi); rwa [show k + (i + 1) = k + 1 + i by omega] at this
theorem scan_val {α ρ : Type} {f : Nat → α → Option ρ} {r : ρ} : ∀ {xs : List α} {k : Nat}, scan f xs k = some r → ∃ i e, xs[i]? = some e ∧ f (k + i) e = some r
  | [], k, h => by simp [scan] at h
  | x :: xs, k, h => by
    simp only [scan] at h
    cases y : f k x with
    | some r' => rw [y] at h; cases h; exact ⟨0, x, by simp, by simpa using y⟩
    | none =>
      rw [y] at h
      obtain ⟨i, e, hi, he⟩ := scan_val h
      exact ⟨i + 1, e, by simpa using hi, by rwa [show k + (i + 1) = k + 1 + i by omega]⟩
/-- Two searches that can say one thing alone. -/
theorem scan_same {α α' ρ : Type} {f : Nat → α → Option ρ} {g : Nat → α' → Option ρ} {xs : List α} {ys : List α'} {k j : Nat} {r : ρ} (hf : ∀ i e x, f i e = some x → x = r) (hg : ∀ i e x, g i e = some x → x = r)
    (h : (∃ i e, xs[i]? = some e ∧ f (k + i) e = some r) ↔ ∃ i e, ys[i]? = some e ∧ g (j + i) e = some r) : scan f xs k = scan g ys j := by
  cases x : scan f xs k with
  | some r' =>
    obtain ⟨i, e, hi, he⟩ := scan_val x
    have := hf _ _ _ he
    subst this
    cases y : scan g ys j with
    | some r'' =>
      obtain ⟨i, e, hi, he⟩ := scan_val y
      rw [hg _ _ _ he]
    | none =>
      obtain ⟨i', e', hi', he'⟩ := h.1 ⟨i, e, hi, he⟩
      rw [scan_none.1 y i' e' hi'] at he'
      cases he'
  | none =>
    cases y : scan g ys j with
    | none => rfl
    | some r' =>
      obtain ⟨i, e, hi, he⟩ := scan_val y
      have := hg _ _ _ he
      subst this
      obtain ⟨i', e', hi', he'⟩ := h.2 ⟨i, e, hi, he⟩
      rw [scan_none.1 x i' e' hi'] at he'
      cases he'

/-- What a search comes to. -/
def found {σ β ρ : Type} (b : β) : Option ρ → Ctl σ β ρ
  | none => .brk b
  | some r => .ret r
def going {σ β ρ : Type} (s : σ) : Option ρ → Ctl σ β ρ
  | none => .nxt s
  | some r => .ret r
theorem while_scan {α β ρ : Type} {xs : List α} (hlen : xs.length ≤ 9223372036854775807) {body : Int → Option (Ctl Int β ρ)} {b : β} (f : Nat → α → Option ρ)
    (hstep : ∀ (k : Nat) (e : α), xs[k]? = some e → body (k : Int) = some (going (w64 ((k : Int) + 1)) (f k e))) (hend : body (xs.length : Int) = some (.brk b)) : whileM body 0 = some (found b (scan f xs 0)) := by
  have key : ∀ m k, k + m = xs.length → whileM body (k : Int) = some (found b (scan f (xs.drop k) k)) := by
    intro m
    induction m with
    | zero =>
      intro k hk
      have : k = xs.length := by omega
      subst this
      rw [whileM_brk hend]
      simp [scan, found]
    | succ m ih =>
      intro k hk
      have hlt : k < xs.length := by omega
      have hg : xs[k]? = some xs[k] := List.getElem?_eq_getElem hlt
      have hs := hstep k _ hg
      rw [List.drop_eq_getElem_cons hlt, scan]
      cases y : f k xs[k] with
      | none =>
        rw [y, going, w64_succ hlt hlen] at hs
        rw [whileM_nxt hs, ih (k + 1) (by omega)]
      | some r =>
        rw [y, going] at hs
        rw [whileM_ret hs]
        rfl
  have := key xs.length 0 (by omega)
  simpa using this

/-- A loop that goes through a list, with a state. -/
theorem while_fold {α σ τ β ρ : Type} {xs : List α} {body : σ → Option (Ctl σ β ρ)} (S : Nat → τ → σ) (g : Nat → α → τ → τ) (out : τ → β) (t : τ)
    (hstep : ∀ k e t, xs[k]? = some e → body (S k t) = some (.nxt (S (k + 1) (g k e t)))) (hend : ∀ t, body (S xs.length t) = some (.brk (out t))) :
    whileM body (S 0 t) = some (.brk (out (xs.zipIdx.foldl (fun t e => g e.2 e.1 t) t))) := by
  have key : ∀ m k t, k + m = xs.length → whileM body (S k t) = some (.brk (out (((xs.drop k).zipIdx k).foldl (fun t e => g e.2 e.1 t) t))) := by
    intro m
    induction m with
    | zero =>
      intro k t hk
      have : k = xs.length := by omega
      subst this
      rw [whileM_brk (hend t)]
      simp
    | succ m ih =>
      intro k t hk
      have hlt : k < xs.length := by omega
      rw [whileM_nxt (hstep k _ t (List.getElem?_eq_getElem hlt)), ih (k + 1) _ (by omega)]
      have : (xs.drop k).zipIdx k = (xs[k], k) :: (xs.drop (k + 1)).zipIdx (k + 1) := by rw [List.drop_eq_getElem_cons hlt, List.zipIdx_cons]
      rw [this, List.foldl_cons]
  have := key xs.length 0 t (by omega)
  simpa using this
end Go.Bk
