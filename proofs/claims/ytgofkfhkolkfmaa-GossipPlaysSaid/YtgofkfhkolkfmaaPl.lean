/-
  Plain laws on loops of the models: no program stands here.
-/
import Derived.Test.YtgofkfhkolkfmaaBk5
namespace Go.Bk
open Go
set_option linter.unusedVariables false
set_option linter.unusedSimpArgs false

theorem w64_succ {k n : Nat} (h : k < n) (hn : n ≤ 9223372036854775807) : w64 ((k : Int) + 1) = ((k + 1 : Nat) : Int) := by rw [w64_of (by omega) (by omega)]; push_cast; rfl
theorem idx_some {α : Type} {l : List α} {k : Nat} {x : α} (h : l[k]? = some x) : idx l (k : Int) = some x := by rw [idx_nat, h]
theorem lt_of_get {α : Type} {l : List α} {k : Nat} {x : α} (h : l[k]? = some x) : k < l.length := (List.getElem?_eq_some_iff.1 h).1

/-- Rounds 0 .. n-1 go on, round n leaves. -/
theorem while_upto {σ β ρ : Type} {body : σ → Option (Ctl σ β ρ)} (S : Nat → σ) : ∀ (n : Nat) {c : Ctl σ β ρ}, (∀ k, k < n → body (S k) = some (.nxt (S (k + 1)))) → body (S n) = some c → (∀ s, c ≠ .nxt s) → whileM body (S 0) = some c := by
  intro n c h hn hc
  have key : ∀ m k, k + m = n → whileM body (S k) = some c := by
    intro m
    induction m with
    | zero =>
      intro k hk
      have : k = n := by omega
      subst this
      cases c with
      | nxt s => exact absurd rfl (hc s)
      | brk b => exact whileM_brk hn
      | ret r => exact whileM_ret hn
    | succ m ih => intro k hk; rw [whileM_nxt (h k (by omega))]; exact ih (k + 1) (by omega)
  exact key n 0 (by omega)

/-- The first element at which something is said. -/
def scan {α ρ : Type} (f : Nat → α → Option ρ) : List α → Nat → Option ρ
  | [], _ => none
  | e :: l, k => match f k e with
    | some r => some r
    | none => scan f l (k + 1)
theorem scan_none {α ρ : Type} {f : Nat → α → Option ρ} : ∀ {xs : List α} {k : Nat}, scan f xs k = none ↔ ∀ i e, xs[i]? = some e → f (k + i) e = none
  | [], k => by simp [scan]
  | x :: xs, k => by
    simp only [scan]
    constructor
    · intro h i e hi
      cases y : f k x with
      | some r => rw [y] at h; cases h
      | none =>
        rw [y] at h
        cases i with
        | zero => simp at hi; subst hi; exact y
        | succ i => have := scan_none.1 h i e (by simpa using hi); rwa [show k + 1 + i = k + (i + 1) by omega] at this
    · intro h
      have h0 := h 0 x (by simp)
      rw [Nat.add_zero] at h0
      rw [h0]
      exact scan_none.2 fun i e hi => by have := h (i + 1) e (by simpa using hi); rwa [show k + (i + 1) = k + 1 + i by omega] at this
theorem scan_val {α ρ : Type} {f : Nat → α → Option ρ} {r : ρ} : ∀ {xs : List α} {k : Nat}, scan f xs k = some r → ∃ i e, xs[i]? = some e ∧ f (k + i) e = some r
  | [], k, h => by simp [scan] at h
  | x :: xs, k, h => by
    simp only [scan] at h
    cases y : f k x with
    | some r' => rw [y] at h; cases h; exact ⟨0, x, by simp, by simpa using y⟩
    | none =>
      rw [y] at h
      obtain ⟨i, e, hi, he⟩ := scan_val h
      exact ⟨i + 1, e, by simpa using hi, by rwa [show k + (i + 1) = k + 1 + i by omega]⟩
/-- Two searches that can say one thing alone. -/
theorem scan_same {α α' ρ : Type} {f : Nat → α → Option ρ} {g : Nat → α' → Option ρ} {xs : List α} {ys : List α'} {k j : Nat} {r : ρ} (hf : ∀ i e x, f i e = some x → x = r) (hg : ∀ i e x, g i e = some x → x = r)
    (h : (∃ i e, xs[i]? = some e ∧ f (k + i) e = some r) ↔ ∃ i e, ys[i]? = some e ∧ g (j + i) e = some r) : scan f xs k = scan g ys j := by
  cases x : scan f xs k with
  | some r' =>
    obtain ⟨i, e, hi, he⟩ := scan_val x
    have := hf _ _ _ he
    subst this
    cases y : scan g ys j with
    | some r'' =>
      obtain ⟨i, e, hi, he⟩ := scan_val y
      rw [hg _ _ _ he]
    | none =>
      obtain ⟨i', e', hi', he'⟩ := h.1 ⟨i, e, hi, he⟩
      rw [scan_none.1 y i' e' hi'] at he'
      cases he'
  | none =>
    cases y : scan g ys j with
    | none => rfl
    | some r' =>
      obtain ⟨i, e, hi, he⟩ := scan_val y
      have := hg _ _ _ he
      subst this
      obtain ⟨i', e', hi', he'⟩ := h.2 ⟨i, e, hi, he⟩
      rw [scan_none.1 x i' e' hi'] at he'
      cases he'

/-- What a search comes to. -/
def found {σ β ρ : Type} (b : β) : Option ρ → Ctl σ β ρ
  | none => .brk b
  | some r => .ret r
def going {σ β ρ : Type} (s : σ) : Option ρ → Ctl σ β ρ
  | none => .nxt s
  | some r => .ret r
theorem while_scan {α β ρ : Type} {xs : List α} (hlen : xs.length ≤ 9223372036854775807) {body : Int → Option (Ctl Int β ρ)} {b : β} (f : Nat → α → Option ρ)
    (hstep : ∀ (k : Nat) (e : α), xs[k]? = some e → body (k : Int) = some (going (w64 ((k : Int) + 1)) (f k e))) (hend : body (xs.length : Int) = some (.brk b)) : whileM body 0 = some (found b (scan f xs 0)) := by
  have key : ∀ m k, k + m = xs.length → whileM body (k : Int) = some (found b (scan f (xs.drop k) k)) := by
    intro m
    induction m with
    | zero =>
      intro k hk
      have : k = xs.length := by omega
      subst this
      rw [whileM_brk hend]
      simp [scan, found]
    | succ m ih =>
      intro k hk
      have hlt : k < xs.length := by omega
      have hg : xs[k]? = some xs[k] := List.getElem?_eq_getElem hlt
      have hs := hstep k _ hg
      rw [List.drop_eq_getElem_cons hlt, scan]
      cases y : f k xs[k] with
      | none =>
        rw [y, going, w64_succ hlt hlen] at hs
        rw [whileM_nxt hs, ih (k + 1) (by omega)]
      | some r =>
        rw [y, going] at hs
        rw [whileM_ret hs]
        rfl
  have := key xs.length 0 (by omega)
  simpa using this

/-- A loop that goes through a list, with a state. -/
theorem while_fold {α σ τ β ρ : Type} {xs : List α} {body : σ → Option (Ctl σ β ρ)} (S : Nat → τ → σ) (g : Nat → α → τ → τ) (out : τ → β) (t : τ)
    (hstep : ∀ k e t, xs[k]? = some e → body (S k t) = some (.nxt (S (k + 1) (g k e t)))) (hend : ∀ t, body (S xs.length t) = some (.brk (out t))) :
    whileM body (S 0 t) = some (.brk (out (xs.zipIdx.foldl (fun t e => g e.2 e.1 t) t))) := by
  have key : ∀ m k t, k + m = xs.length → whileM body (S k t) = some (.brk (out (((xs.drop k).zipIdx k).foldl (fun t e => g e.2 e.1 t) t))) := by
    intro m
    induction m with
    | zero =>
      intro k t hk
      have : k = xs.length := by omega
      subst this
      rw [whileM_brk (hend t)]
      simp
    | succ m ih =>
      intro k t hk
      have hlt : k < xs.length := by omega
      rw [whileM_nxt (hstep k _ t (List.getElem?_eq_getElem hlt)), ih (k + 1) _ (by omega)]
      have : (xs.drop k).zipIdx k = (xs[k], k) :: (xs.drop (k + 1)).zipIdx (k + 1) := by rw [List.drop_eq_getElem_cons hlt, List.zipIdx_cons]
      rw [this, List.foldl_cons]
  have := key xs.length 0 t (by omega)
  simpa using this
theorem scan_any {α ρ : Type} {p : α → Bool} {r : ρ} : ∀ {l : List α} {k : Nat}, scan (fun _ e => if p e = true then some r else none) l k = cond (l.any p) (some r) none
  | [], k => by simp [scan]
  | x :: l, k => by
    have ih := scan_any (p := p) (r := r) (l := l) (k := k + 1)
    simp only [scan, List.any_cons, ih]
    by_cases h : p x = true
    · simp [h]
    · have h' : p x = false := by simpa using h
      simp [h']
/-- All pairs: with those before, and with all others. -/
theorem scan_pairs {α ρ : Type} (l : List α) (r : ρ) (p q : α → α → Bool) (hpq : ∀ a b, p a b = (q a b || q b a)) : scan (fun k a => scan (fun _ b => if p a b = true then some r else none) (l.take k) 0) l 0 =
    scan (fun k a => scan (fun j b => if (k : Int) ≠ (j : Int) ∧ q a b = true then some r else none) l 0) l 0 := by
  have h3 : ∀ (p : Prop) [Decidable p] (x : ρ), (if p then some r else none) = some x → x = r := by intro p _ x h; split at h <;> simp_all
  have in1 : ∀ (k : Nat) (a : α) x, scan (fun _ b => if p a b = true then some r else none) (l.take k) 0 = some x → x = r := fun k a x h => by
    obtain ⟨i, e, hi, he⟩ := scan_val h; exact h3 _ _ he
  have in2 : ∀ (k : Nat) (a : α) x, scan (fun j b => if (k : Int) ≠ (j : Int) ∧ q a b = true then some r else none) l 0 = some x → x = r := fun k a x h => by
    obtain ⟨i, e, hi, he⟩ := scan_val h; exact h3 _ _ he
  refine scan_same in1 in2 ?_
  have some1 : ∀ (k : Nat) (a : α), scan (fun _ b => if p a b = true then some r else none) (l.take k) 0 = some r ↔ ∃ j b, l[j]? = some b ∧ j < k ∧ p a b = true := fun k a => by
    constructor
    · intro h
      obtain ⟨i, e, hi, he⟩ := scan_val h
      rw [List.getElem?_take] at hi
      split at hi
      · rename_i hik; exact ⟨i, e, hi, hik, by cases c : p a e with | true => rfl | false => rw [c] at he; simp at he⟩
      · cases hi
    · rintro ⟨j, b, hj, hjk, hc⟩
      cases x : scan (fun _ b => if p a b = true then some r else none) (l.take k) 0 with
      | some r => rw [in1 k a r x]
      | none => have := scan_none.1 x j b (by rw [List.getElem?_take, if_pos hjk, hj]); simp [hc] at this
  have some2 : ∀ (k : Nat) (a : α), scan (fun j b => if (k : Int) ≠ (j : Int) ∧ q a b = true then some r else none) l 0 = some r ↔ ∃ j b, l[j]? = some b ∧ k ≠ j ∧ q a b = true := fun k a => by
    constructor
    · intro h
      obtain ⟨i, e, hi, he⟩ := scan_val h
      by_cases c : (k : Int) ≠ ((0 + i : Nat) : Int) ∧ q a e = true
      · exact ⟨i, e, hi, by omega, c.2⟩
      · rw [if_neg c] at he; cases he
    · rintro ⟨j, b, hj, hjk, hc⟩
      cases x : scan (fun j b => if (k : Int) ≠ (j : Int) ∧ q a b = true then some r else none) l 0 with
      | some r => rw [in2 k a r x]
      | none =>
        have := scan_none.1 x j b hj
        rw [if_pos ⟨by omega, hc⟩] at this
        cases this
  simp only [Nat.zero_add, some1, some2]
  constructor
  · rintro ⟨i, e, hi, j, b, hj, hji, hc⟩
    rw [hpq, Bool.or_eq_true] at hc
    rcases hc with hc | hc
    · exact ⟨i, e, hi, j, b, hj, by omega, hc⟩
    · exact ⟨j, b, hj, i, e, hi, by omega, hc⟩
  · rintro ⟨i, e, hi, j, b, hj, hji, hc⟩
    rcases Nat.lt_or_gt_of_ne hji with h | h
    · exact ⟨j, b, hj, i, e, hi, h, by rw [hpq, hc]; simp⟩
    · exact ⟨i, e, hi, j, b, hj, h, by rw [hpq, hc]; simp⟩

/-! Words of 32 bits as sets. -/
theorem shc_nat (n : Nat) : shc (n : Int) = some n := by simp [shc]
theorem u64_nat {n : Nat} (h : n ≤ 18446744073709551615) : (u64 (n : Int)).toNat = n := by rw [u64_of (by omega) (by omega)]; simp
theorem one_shl {n : Nat} (h : n < 32) : (1#32 <<< n).toNat = 2 ^ n := by
  rw [BitVec.toNat_shiftLeft, Nat.shiftLeft_eq, Nat.mod_eq_of_lt]
  · simp
  · have := Nat.pow_lt_pow_right (a := 2) (by decide) h; simpa using this
theorem shr_ne {x : BitVec 32} {n : Nat} (h : n < 32) : ((x >>> n) != 0#32) = decide ((1#32 <<< n) ≤ x) := by
  rw [Bool.eq_iff_iff]
  simp only [bne_iff_ne, ne_eq, decide_eq_true_eq, BitVec.le_def, one_shl h, ← BitVec.toNat_inj, BitVec.toNat_ushiftRight, Nat.shiftRight_eq_div_pow]
  have hp : 0 < 2 ^ n := Nat.two_pow_pos n
  constructor
  · intro q
    rcases Nat.lt_or_ge x.toNat (2 ^ n) with c | c
    · exact absurd (by simpa using Nat.div_eq_of_lt c) q
    · exact c
  · intro q r
    have := Nat.div_pos q hp
    simp at r
    omega

/-- A loop of n rounds that looks for something. -/
theorem while_scanN {σ β ρ : Type} {body : σ → Option (Ctl σ β ρ)} (S : Nat → σ) (n : Nat) {b : β} (f : Nat → Option ρ)
    (hstep : ∀ k, k < n → body (S k) = some (going (S (k + 1)) (f k))) (hend : body (S n) = some (.brk b)) : whileM body (S 0) = some (found b (scan (fun k (_ : Unit) => f k) (List.replicate n ()) 0)) := by
  have key : ∀ m k, k + m = n → whileM body (S k) = some (found b (scan (fun k (_ : Unit) => f k) (List.replicate m ()) k)) := by
    intro m
    induction m with
    | zero =>
      intro k hk
      have : k = n := by omega
      subst this
      rw [whileM_brk hend]
      simp [scan, found]
    | succ m ih =>
      intro k hk
      have hs := hstep k (by omega)
      rw [List.replicate_succ, scan]
      cases y : f k with
      | none => rw [y, going] at hs; rw [whileM_nxt hs, ih (k + 1) (by omega)]
      | some r => rw [y, going] at hs; rw [whileM_ret hs]; rfl
  exact key n 0 (by omega)
theorem scanN_none {ρ : Type} {f : Nat → Option ρ} {n : Nat} : scan (fun k (_ : Unit) => f k) (List.replicate n ()) 0 = none ↔ ∀ k, k < n → f k = none := by
  rw [scan_none]
  constructor
  · intro h k hk; have := h k () (by simp [hk]); simpa using this
  · intro h k e hk; have := (List.getElem?_eq_some_iff.1 hk).1; simp at this; simpa using h k this
theorem scanN_val {ρ : Type} {f : Nat → Option ρ} {n : Nat} {r : ρ} (h : scan (fun k (_ : Unit) => f k) (List.replicate n ()) 0 = some r) : ∃ k, k < n ∧ f k = some r := by
  obtain ⟨i, e, hi, he⟩ := scan_val h
  have := (List.getElem?_eq_some_iff.1 hi).1
  simp at this
  exact ⟨i, this, by simpa using he⟩
/-- A loop of n rounds with a state. -/
theorem while_foldN {σ τ β ρ : Type} {body : σ → Option (Ctl σ β ρ)} (S : Nat → τ → σ) (n : Nat) (g : Nat → τ → τ) (out : τ → β) (t : τ)
    (hstep : ∀ k t, k < n → body (S k t) = some (.nxt (S (k + 1) (g k t)))) (hend : ∀ t, body (S n t) = some (.brk (out t))) :
    whileM body (S 0 t) = some (.brk (out ((List.range n).foldl (fun t k => g k t) t))) := by
  have key : ∀ m k t, k + m = n → whileM body (S k t) = some (.brk (out ((List.range' k m).foldl (fun t k => g k t) t))) := by
    intro m
    induction m with
    | zero =>
      intro k t hk
      have : k = n := by omega
      subst this
      rw [whileM_brk (hend t)]
      simp
    | succ m ih =>
      intro k t hk
      rw [whileM_nxt (hstep k t (by omega)), ih (k + 1) _ (by omega), List.range'_succ, List.foldl_cons]
  have := key n 0 t (by omega)
  rwa [← List.range_eq_range'] at this
end Go.Bk
