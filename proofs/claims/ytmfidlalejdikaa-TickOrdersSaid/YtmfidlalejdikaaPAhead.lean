/-
  What is ahead of what: the reference's table, and the program's words.
-/
import Derived.Test.YtmfidlalejdikaaPRunChecks
import Derived.Test.YtmfidlalejdikaaPg
namespace Go.Proofs.Ytmfidlalejdikaa
open Go Go.Bk
set_option linter.unusedVariables false
set_option linter.unusedSimpArgs false

/-! Rows as functions. -/
def rowf {α : Type} (n : Nat) (f : Nat → α) : List α := (List.range n).map f
theorem rowf_len {α : Type} (n : Nat) (f : Nat → α) : (rowf n f).length = n := by simp [rowf]
theorem rowf_get {α : Type} {n k : Nat} {f : Nat → α} (h : k < n) : (rowf n f)[k]? = some (f k) := by simp [rowf, h]
theorem rowf_idx {α : Type} {n k : Nat} {f : Nat → α} (h : k < n) : idx (rowf n f) (k : Int) = some (f k) := idx_some (rowf_get h)
theorem rowf_set {α : Type} {n k : Nat} {f : Nat → α} {v : α} : (rowf n f).set k v = rowf n (fun c => if c = k then v else f c) := by
  apply List.ext_getElem?
  intro j
  rw [List.getElem?_set]
  by_cases hj : j < n
  · rw [rowf_get hj, rowf_get hj, rowf_len]
    by_cases c : k = j
    · subst c; simp [hj]
    · have : ¬ j = k := fun e => c e.symm
      simp [c, this]
  · have h1 : (rowf n f)[j]? = none := by rw [List.getElem?_eq_none]; rw [rowf_len]; omega
    have h2 : (rowf n (fun c => if c = k then v else f c))[j]? = none := by rw [List.getElem?_eq_none]; rw [rowf_len]; omega
    rw [h1, h2, rowf_len]
    by_cases c : k = j
    · subst c; simp [hj]
    · simp [c]
theorem rowf_congr {α : Type} {n : Nat} {f g : Nat → α} (h : ∀ k, k < n → f k = g k) : rowf n f = rowf n g :=
  List.map_congr_left fun k hk => h k (by simpa using hk)
def mat (n : Nat) (M : Nat → Nat → Bool) : List (List Bool) := rowf n (fun a => rowf n (M a))
theorem mat_congr {n : Nat} {M K : Nat → Nat → Bool} (h : ∀ a b, a < n → b < n → M a b = K a b) : mat n M = mat n K :=
  rowf_congr fun a ha => rowf_congr fun b hb => h a b ha hb

/-! The check. -/
def chk (n : Int) (l : List Ev) (k : Nat) (e : Ev) : Option Int :=
  cond (((decide (e.1 < 0)) || (decide (e.1 ≥ n)))) (some 2)
  (cond (((decide (e.2.1 < 1)) || (decide (e.2.1 > 3)))) (some 6)
  (cond (e.2.1 == 1) none
  (cond (((decide (e.2.2 < 0)) || (decide (e.2.2 > 20)))) (some 4)
  (cond ((((e.2.1 == 2) && (decide ((sn (l.take k) e.2.2 : Int) > 0))) || ((e.2.1 == 3) && (((sn (l.take k) e.2.2 : Int) == 0) || (decide ((tn (l.take k) e.2.2 : Int) > 0)))))) (some 3) none))))
theorem f16_l0 (n : Int) (l : List Ev) (hl : l.length ≤ 30) : whileM (F16_L0 n l) 0 = some (found () (scan (chk n l) l 0)) := by
  refine while_scan (by omega) _ (fun k e h => ?_) (by simp [F16_L0])
  have hk := lt_of_get h
  have h1 := f16_l1 e (l.take k) (by simp; omega)
  have hlt : decide ((k : Int) < (l.length : Int)) = true := by simpa using hk
  simp only [F16_L0, idx_some h, slI_take hk, h1, Option.bind_some, hlt, cond_true, Nat.zero_add]
  unfold chk
  cases ((decide (e.1 < 0)) || (decide (e.1 ≥ n))) with
  | true => simp [going]
  | false =>
    cases ((decide (e.2.1 < 1)) || (decide (e.2.1 > 3))) with
    | true => simp [going]
    | false =>
      cases (e.2.1 == 1) with
      | true => simp [going]
      | false =>
        cases ((decide (e.2.2 < 0)) || (decide (e.2.2 > 20))) with
        | true => simp [going]
        | false =>
          simp only [cond_false, Ctl.on]
          cases ((((e.2.1 == 2) && (decide ((sn (l.take k) e.2.2 : Int) > 0))) || ((e.2.1 == 3) && (((sn (l.take k) e.2.2 : Int) == 0) || (decide ((tn (l.take k) e.2.2 : Int) > 0)))))) with
          | true => simp [going]
          | false => simp [going]
structure Good (n : Int) (l : List Ev) : Prop where
  n1 : 1 ≤ n
  n6 : n ≤ 6
  len : l.length ≤ 30
  ev : ∀ (k : Nat) (e : Ev), l[k]? = some e → chk n l k e = none
theorem good_of {n : Int} {l : List Ev} (h : F16 n l = some 0) : Good n l := by
  unfold F16 at h
  cases c : ((((decide (n < 1)) || (decide (n > 6))) || (decide ((l.length : Int) > 30)))) with
  | true => rw [c] at h; simp at h
  | false =>
    rw [c] at h
    simp only [Bool.or_eq_false_iff, decide_eq_false_iff_not] at c
    rw [f16_l0 n l (by omega)] at h
    cases hs : scan (chk n l) l 0 with
    | none => exact ⟨by omega, by omega, by omega, fun k e he => by have := scan_none.1 hs k e he; simpa using this⟩
    | some r =>
      exfalso
      obtain ⟨k, e, hk, hv⟩ := scan_val hs
      rw [hs] at h
      simp [found, Ctl.on] at h
      subst h
      unfold chk at hv
      cases c1 : ((decide (e.1 < 0)) || (decide (e.1 ≥ n))) <;> rw [c1] at hv <;> simp at hv
      cases c2 : ((decide (e.2.1 < 1)) || (decide (e.2.1 > 3))) <;> rw [c2] at hv <;> simp at hv
      cases c3 : (e.2.1 == 1) <;> rw [c3] at hv <;> simp at hv
      cases c4 : ((decide (e.2.2 < 0)) || (decide (e.2.2 > 20))) <;> rw [c4] at hv <;> simp at hv
      rw [Bool.cond_eq_ite] at hv
      split at hv <;> simp at hv
section
variable {n : Int} {l : List Ev} (g : Good n l)
include g
theorem Good.proc {k : Nat} {e : Ev} (h : l[k]? = some e) : 0 ≤ e.1 ∧ e.1 < n ∧ 1 ≤ e.2.1 ∧ e.2.1 ≤ 3 := by
  have := g.ev k e h
  unfold chk at this
  cases c1 : ((decide (e.1 < 0)) || (decide (e.1 ≥ n))) <;> rw [c1] at this <;> simp at this
  cases c2 : ((decide (e.2.1 < 1)) || (decide (e.2.1 > 3))) <;> rw [c2] at this <;> simp at this
  simp only [Bool.or_eq_false_iff, decide_eq_false_iff_not] at c1 c2
  omega
theorem Good.msg {k : Nat} {e : Ev} (h : l[k]? = some e) (h1 : e.2.1 ≠ 1) : 0 ≤ e.2.2 ∧ e.2.2 ≤ 20 ∧ (e.2.1 = 2 → sn (l.take k) e.2.2 = 0) ∧ (e.2.1 = 3 → sn (l.take k) e.2.2 ≠ 0 ∧ tn (l.take k) e.2.2 = 0) := by
  have := g.ev k e h
  unfold chk at this
  cases c1 : ((decide (e.1 < 0)) || (decide (e.1 ≥ n))) <;> rw [c1] at this <;> simp at this
  cases c2 : ((decide (e.2.1 < 1)) || (decide (e.2.1 > 3))) <;> rw [c2] at this <;> simp at this
  cases c3 : (e.2.1 == 1) <;> rw [c3] at this
  · simp at this
    cases c4 : ((decide (e.2.2 < 0)) || (decide (e.2.2 > 20))) <;> rw [c4] at this <;> simp at this
    simp only [Bool.or_eq_false_iff, decide_eq_false_iff_not] at c4
    rw [Bool.cond_eq_ite] at this
    have hf : ((e.2.1 == 2 && decide (0 < sn (l.take k) e.2.2)) || (e.2.1 == 3 && (((sn (l.take k) e.2.2 : Nat) : Int) == 0 || decide (0 < tn (l.take k) e.2.2)))) = false := by
      cases q : ((e.2.1 == 2 && decide (0 < sn (l.take k) e.2.2)) || (e.2.1 == 3 && (((sn (l.take k) e.2.2 : Nat) : Int) == 0 || decide (0 < tn (l.take k) e.2.2)))) with
      | false => rfl
      | true => rw [if_pos q] at this; cases this
    simp only [Bool.or_eq_false_iff, Bool.and_eq_false_iff, beq_eq_false_iff_ne, decide_eq_false_iff_not] at hf
    refine ⟨by omega, by omega, fun e2 => ?_, fun e3 => ?_⟩
    · rcases hf.1 with q | q
      · exact absurd e2 q
      · omega
    · rcases hf.2 with q | q
      · exact absurd e3 q
      · omega
  · exact absurd (by simpa using c3) h1
/-- No message is sent twice. -/
theorem Good.once {s k : Nat} {a e : Ev} (hs : l[s]? = some a) (hk : l[k]? = some e) (hlt : s < k) (ha : a.2.1 = 2) (he : e.2.1 = 2) (hm : a.2.2 = e.2.2) : False := by
  have := (g.msg hk (by omega)).2.2.1 he
  unfold sn at this
  rw [List.countP_eq_zero] at this
  have h1 : a ∈ l.take k := List.mem_of_getElem? (i := s) (by rw [List.getElem?_take, if_pos hlt]; exact hs)
  have := this a h1
  simp [isS, ha, hm] at this
end

/-! The relation. -/
def E (l : List Ev) (i j : Nat) : Bool := match l[i]?, l[j]? with
  | some a, some b => decide (i < j) && (a.1 == b.1 || (a.2.1 == 2 && b.2.1 == 3 && a.2.2 == b.2.2))
  | _, _ => false
theorem E_iff {l : List Ev} {i j : Nat} : E l i j = true ↔ ∃ a b, l[i]? = some a ∧ l[j]? = some b ∧ i < j ∧ (a.1 = b.1 ∨ (a.2.1 = 2 ∧ b.2.1 = 3 ∧ a.2.2 = b.2.2)) := by
  unfold E
  cases h1 : l[i]? with
  | none => simp
  | some a =>
    cases h2 : l[j]? with
    | none => simp
    | some b =>
      simp only [Bool.and_eq_true, Bool.or_eq_true, decide_eq_true_eq, beq_iff_eq, Option.some.injEq]
      constructor
      · rintro ⟨h, h'⟩
        exact ⟨a, b, rfl, rfl, h, h'.imp id fun ⟨⟨x, y⟩, z⟩ => ⟨x, y, z⟩⟩
      · rintro ⟨a', b', rfl, rfl, h, h'⟩
        exact ⟨h, h'.imp id fun ⟨x, y, z⟩ => ⟨⟨x, y⟩, z⟩⟩
theorem E_lt {l : List Ev} {i j : Nat} (h : E l i j = true) : i < j ∧ j < l.length := by
  obtain ⟨a, b, _, h2, h3, _⟩ := E_iff.1 h
  exact ⟨h3, lt_of_get h2⟩
def U (M : Nat → Nat → Bool) (k a b : Nat) : Bool := M a b || (M a k && M k b)
def W (l : List Ev) : Nat → Nat → Nat → Bool
  | 0 => E l
  | k + 1 => U (W l k) k
/-- Is i ahead of j? -/
def T (l : List Ev) (i j : Nat) : Bool := W l l.length i j
theorem W_mono {l : List Ev} {k : Nat} {a b : Nat} (h : W l k a b = true) : ∀ m, k ≤ m → W l m a b = true
  | 0, hm => by have : k = 0 := by omega
                subst this; exact h
  | m + 1, hm => by
    by_cases c : k = m + 1
    · subst c; exact h
    · have := W_mono h m (by omega)
      show U (W l m) m a b = true
      unfold U; rw [this]; rfl
theorem W_trans {l : List Ev} : ∀ (m : Nat) {a b c : Nat}, c < m → W l m a c = true → W l m c b = true → W l m a b = true
  | 0, _, _, _, h, _, _ => by omega
  | m + 1, a, b, c, hc, h1, h2 => by
    have ih := fun {a b c : Nat} => W_trans (l := l) m (a := a) (b := b) (c := c)
    change U (W l m) m a c = true at h1
    change U (W l m) m c b = true at h2
    show U (W l m) m a b = true
    unfold U at h1 h2 ⊢
    simp only [Bool.or_eq_true, Bool.and_eq_true] at h1 h2 ⊢
    by_cases e : c = m
    · subst e
      have h1' : W l c a c = true := h1.elim id (·.1)
      have h2' : W l c c b = true := h2.elim id (·.2)
      exact .inr ⟨h1', h2'⟩
    · have hcm : c < m := by omega
      rcases h1 with h1 | ⟨h1, h1'⟩ <;> rcases h2 with h2 | ⟨h2, h2'⟩
      · exact .inl (ih hcm h1 h2)
      · exact .inr ⟨ih hcm h1 h2, h2'⟩
      · exact .inr ⟨h1, ih hcm h1' h2⟩
      · exact .inr ⟨h1, h2'⟩
theorem W_lt {l : List Ev} : ∀ (k : Nat) {a b : Nat}, W l k a b = true → a < b ∧ b < l.length
  | 0, _, _, h => E_lt h
  | k + 1, a, b, h => by
    change U (W l k) k a b = true at h
    unfold U at h
    simp only [Bool.or_eq_true, Bool.and_eq_true] at h
    rcases h with h | ⟨h1, h2⟩
    · exact W_lt k h
    · have := W_lt k h1; have := W_lt k h2; omega
theorem T_lt {l : List Ev} {a b : Nat} (h : T l a b = true) : a < b ∧ b < l.length := W_lt _ h
theorem T_of_E {l : List Ev} {a b : Nat} (h : E l a b = true) : T l a b = true := W_mono (k := 0) h _ (by omega)
theorem T_trans {l : List Ev} {a b c : Nat} (h1 : T l a c = true) (h2 : T l c b = true) : T l a b = true := W_trans _ (T_lt h1).2 h1 h2
/-- The last step. -/
theorem T_last {l : List Ev} {i j : Nat} : T l i j = true ↔ ∃ m, E l m j = true ∧ (i = m ∨ T l i m = true) := by
  constructor
  · have key : ∀ k, k ≤ l.length → ∀ i j, W l k i j = true → ∃ m, E l m j = true ∧ (i = m ∨ T l i m = true) := by
      intro k
      induction k with
      | zero => intro _ i j h; exact ⟨i, h, .inl rfl⟩
      | succ k ih =>
        intro hk i j h
        change U (W l k) k i j = true at h
        unfold U at h
        simp only [Bool.or_eq_true, Bool.and_eq_true] at h
        rcases h with h | ⟨h1, h2⟩
        · exact ih (by omega) i j h
        · have h1' : T l i k = true := W_mono h1 _ (by omega)
          obtain ⟨m, hm, h3⟩ := ih (by omega) k j h2
          refine ⟨m, hm, .inr ?_⟩
          rcases h3 with h3 | h3
          · subst h3; exact h1'
          · exact T_trans h1' h3
    exact key _ (Nat.le_refl _) i j
  · rintro ⟨m, hm, h | h⟩
    · subst h; exact T_of_E hm
    · exact T_trans h (T_of_E hm)

/-! The reference's table. -/
theorem f18_l4 {l : List Ev} (hl : l.length ≤ 30) (M : Nat → Nat → Bool) {i k : Nat} (hi : i < l.length) (hk : k < l.length) :
    whileM (F18_L4 l (k : Int) (i : Int)) (mat l.length M, 0) = some (.brk (mat l.length (fun a b => if a = i then U M k a b else M a b))) := by
  have hw := while_upto (body := F18_L4 l (k : Int) (i : Int)) (fun j => (mat l.length (fun a b => if a = i ∧ b < j then U M k a b else M a b), (j : Int))) l.length (c := .brk (mat l.length (fun a b => if a = i then U M k a b else M a b)))
    (fun j hj => by
      have r1 : idx (mat l.length (fun a b => if a = i ∧ b < j then U M k a b else M a b)) (i : Int) = some (rowf l.length (fun b => if i = i ∧ b < j then U M k i b else M i b)) := rowf_idx hi
      have r2 : idx (mat l.length (fun a b => if a = i ∧ b < j then U M k a b else M a b)) (k : Int) = some (rowf l.length (fun b => if k = i ∧ b < j then U M k k b else M k b)) := rowf_idx hk
      have c1 : idx (rowf l.length (fun b => if i = i ∧ b < j then U M k i b else M i b)) (j : Int) = some (M i j) := by rw [rowf_idx hj]; simp
      have c2 : idx (rowf l.length (fun b => if i = i ∧ b < j then U M k i b else M i b)) (k : Int) = some (M i k) := by
        rw [rowf_idx hk]
        refine congrArg some ?_
        split
        · unfold U; cases M i k <;> simp
        · rfl
      have c3 : idx (rowf l.length (fun b => if k = i ∧ b < j then U M k k b else M k b)) (j : Int) = some (M k j) := by rw [rowf_idx hj]; simp
      have hset : (mat l.length (fun a b => if a = i ∧ b < j then U M k a b else M a b)).set i ((rowf l.length (fun b => if i = i ∧ b < j then U M k i b else M i b)).set j (M i j || (M i k && M k j))) = mat l.length (fun a b => if a = i ∧ b < j + 1 then U M k a b else M a b) := by
        unfold mat
        rw [rowf_set, rowf_set]
        refine rowf_congr fun a _ => ?_
        by_cases e : a = i
        · subst e
          simp only [if_true, true_and]
          refine rowf_congr fun b _ => ?_
          by_cases e2 : b = j
          · subst e2; simp [U]
          · have : (b < j + 1) ↔ (b < j) := by omega
            simp [e2, this]
        · simp [e]
      have hjl : decide ((j : Int) < (l.length : Int)) = true := by simpa using hj
      rw [← hset]
      generalize mat l.length (fun a b => if a = i ∧ b < j then U M k a b else M a b) = Y at *
      generalize rowf l.length (fun b => if i = i ∧ b < j then U M k i b else M i b) = R1 at *
      generalize rowf l.length (fun b => if k = i ∧ b < j then U M k k b else M k b) = R2 at *
      simp only [F18_L4, r1, r2, c1, c2, c3, Option.bind_some, hjl, cond_true, w64_succ hj (by omega), Int.toNat_natCast]
      cases M i j <;> cases M i k <;> cases M k j <;> simp)
    (by
      have : (mat l.length (fun a b => if a = i ∧ b < l.length then U M k a b else M a b)) = mat l.length (fun a b => if a = i then U M k a b else M a b) := mat_congr fun a b _ hb => by simp [hb]
      simp [F18_L4, this]) (by intro s h; cases h)
  have h0 : mat l.length (fun a b => if a = i ∧ b < 0 then U M k a b else M a b) = mat l.length M := mat_congr fun a b _ _ => by simp
  simpa [h0] using hw
theorem f18_l3 {l : List Ev} (hl : l.length ≤ 30) (M : Nat → Nat → Bool) {k : Nat} (hk : k < l.length) :
    whileM (F18_L3 l (k : Int)) (mat l.length M, 0) = some (.brk (mat l.length (U M k))) := by
  have hw := while_upto (body := F18_L3 l (k : Int)) (fun i => (mat l.length (fun a b => if a < i then U M k a b else M a b), (i : Int))) l.length (c := .brk (mat l.length (U M k)))
    (fun i hi => by
      have h4 := f18_l4 hl (fun a b => if a < i then U M k a b else M a b) hi hk
      have heq : mat l.length (fun a b => if a = i then U (fun a b => if a < i then U M k a b else M a b) k a b else (if a < i then U M k a b else M a b)) = mat l.length (fun a b => if a < i + 1 then U M k a b else M a b) := mat_congr fun a b _ _ => by
        by_cases e : a = i
        · subst e
          have h1 : ¬ a < a := by omega
          have h2 : a < a + 1 := by omega
          simp only [if_true, if_pos h2]
          unfold U
          simp only [if_neg h1]
          congr 2
          split
          · cases M k b <;> simp
          · rfl
        · have : (a < i + 1) ↔ (a < i) := by omega
          simp [e, this]
      have hil : decide ((i : Int) < (l.length : Int)) = true := by simpa using hi
      simp only [F18_L3, h4, Option.bind_some, Ctl.on, hil, cond_true, w64_succ hi (by omega), heq])
    (by
      have : mat l.length (fun a b => if a < l.length then U M k a b else M a b) = mat l.length (U M k) := mat_congr fun a b ha _ => by simp [ha]
      simp [F18_L3, this]) (by intro s h; cases h)
  have h0 : mat l.length (fun a b => if a < 0 then U M k a b else M a b) = mat l.length M := mat_congr fun a b _ _ => by simp
  simpa [h0] using hw
theorem f18_l2 {l : List Ev} (hl : l.length ≤ 30) : whileM (F18_L2 l) (mat l.length (E l), 0) = some (.brk (mat l.length (T l))) := by
  have hw := while_upto (body := F18_L2 l) (fun k => (mat l.length (W l k), (k : Int))) l.length (c := .brk (mat l.length (T l)))
    (fun k hk => by
      have hkl : decide ((k : Int) < (l.length : Int)) = true := by simpa using hk
      simp only [F18_L2, f18_l3 hl (W l k) hk, Option.bind_some, Ctl.on, hkl, cond_true, w64_succ hk (by omega)]
      rfl)
    (by
      have : mat l.length (W l l.length) = mat l.length (T l) := rfl
      simp [F18_L2, this]) (by intro s h; cases h)
  simpa [W] using hw
theorem f18_l1 {l : List Ev} (hl : l.length ≤ 30) {i : Nat} (hi : i < l.length) (Y : List (List Bool)) (hY : Y.length = l.length) :
    whileM (F18_L1 l (i : Int)) (Y.set i (List.replicate l.length false), ((i + 1 : Nat) : Int)) = some (.brk (Y.set i (rowf l.length (E l i)))) := by
  have hw := while_upto (body := F18_L1 l (i : Int)) (fun k => (Y.set i (rowf l.length (fun b => if b < i + 1 + k then E l i b else false)), ((i + 1 + k : Nat) : Int))) (l.length - (i + 1)) (c := .brk (Y.set i (rowf l.length (E l i))))
    (fun k hk => by
      have hj : i + 1 + k < l.length := by omega
      have hli : l[i]? = some l[i] := List.getElem?_eq_getElem hi
      have hlj : l[i + 1 + k]? = some l[i + 1 + k] := List.getElem?_eq_getElem hj
      have r1 : idx (Y.set i (rowf l.length (fun b => if b < i + 1 + k then E l i b else false))) (i : Int) = some (rowf l.length (fun b => if b < i + 1 + k then E l i b else false)) := idx_some (by rw [List.getElem?_set_self]; omega)
      have r2 : idx (rowf l.length (fun b => if b < i + 1 + k then E l i b else false)) ((i + 1 + k : Nat) : Int) = some (if i + 1 + k < i + 1 + k then E l i (i + 1 + k) else false) := rowf_idx hj
      have hE : E l i (i + 1 + k) = (l[i].1 == l[i + 1 + k].1 || (l[i].2.1 == 2 && l[i + 1 + k].2.1 == 3 && l[i].2.2 == l[i + 1 + k].2.2)) := by
        unfold E; rw [hli, hlj]; simp; omega
      have hset : (Y.set i (rowf l.length (fun b => if b < i + 1 + k then E l i b else false))).set i ((rowf l.length (fun b => if b < i + 1 + k then E l i b else false)).set (i + 1 + k) (E l i (i + 1 + k))) = Y.set i (rowf l.length (fun b => if b < i + 1 + (k + 1) then E l i b else false)) := by
        rw [List.set_set, rowf_set]
        congr 1
        refine rowf_congr fun b _ => ?_
        by_cases e : b = i + 1 + k
        · subst e
          have : i + 1 + k < i + 1 + (k + 1) := by omega
          rw [if_pos rfl, if_pos this]
        · have : (b < i + 1 + (k + 1)) ↔ (b < i + 1 + k) := by omega
          simp [e, this]
      have hjl : decide (((i + 1 + k : Nat) : Int) < (l.length : Int)) = true := by rw [decide_eq_true_eq]; omega
      rw [← hset]
      generalize Y.set i (rowf l.length (fun b => if b < i + 1 + k then E l i b else false)) = Z at *
      generalize rowf l.length (fun b => if b < i + 1 + k then E l i b else false) = R1 at *
      have hwz : w64 (((i + 1 + k : Nat) : Int) + 1) = ((i + 1 + (k + 1) : Nat) : Int) := by rw [w64_succ hj (by omega)]; rfl
      simp only [F18_L1, r1, idx_some hli, idx_some hlj, r2, Option.bind_some, hjl, cond_true, hwz, Int.toNat_natCast, hE]
      cases (l[i].1 == l[i + 1 + k].1) <;> cases (l[i].2.1 == 2) <;> cases (l[i + 1 + k].2.1 == 3) <;> cases (l[i].2.2 == l[i + 1 + k].2.2) <;> simp)
    (by
      have e1 : i + 1 + (l.length - (i + 1)) = l.length := by omega
      have : rowf l.length (fun b => if b < l.length then E l i b else false) = rowf l.length (E l i) := rowf_congr fun b hb => by simp [hb]
      rw [e1, this]
      simp [F18_L1]) (by intro s h; cases h)
  have h0 : rowf l.length (fun b => if b < i + 1 + 0 then E l i b else false) = List.replicate l.length false := by
    apply List.ext_getElem?
    intro b
    by_cases hb : b < l.length
    · rw [rowf_get hb, List.getElem?_replicate, if_pos hb]
      refine congrArg some ?_
      split
      · cases c : E l i b with
        | false => rfl
        | true => have := E_lt c; omega
      · rfl
    · rw [List.getElem?_eq_none (by rw [rowf_len]; omega), List.getElem?_eq_none (by simp; omega)]
  rw [h0] at hw
  exact hw
theorem f18_val {l : List Ev} (hl : l.length ≤ 30) : F18 l = some (mat l.length (T l)) := by
  have hm1 : mkl (l.length : Int) 24 ([] : List Bool) = some (List.replicate l.length []) := by unfold mkl; rw [if_pos ⟨by omega, by omega, by omega⟩]; simp
  have hm2 : mkl (l.length : Int) 1 false = some (List.replicate l.length false) := by unfold mkl; rw [if_pos ⟨by omega, by omega, by omega⟩]; simp
  have hw := while_upto (body := F18_L0 l) (fun i => (rowf l.length (fun a => if a < i then rowf l.length (E l a) else []), (i : Int))) l.length (c := .brk (mat l.length (E l)))
    (fun i hi => by
      have hy : idx (rowf l.length (fun a => if a < i then rowf l.length (E l a) else [])) (i : Int) = some (if i < i then rowf l.length (E l i) else []) := rowf_idx hi
      have h1 := f18_l1 hl hi (rowf l.length (fun a => if a < i then rowf l.length (E l a) else [])) (rowf_len _ _)
      have hset : (rowf l.length (fun a => if a < i then rowf l.length (E l a) else [])).set i (rowf l.length (E l i)) = rowf l.length (fun a => if a < i + 1 then rowf l.length (E l a) else []) := by
        rw [rowf_set]
        refine rowf_congr fun a _ => ?_
        by_cases e : a = i
        · subst e; simp
        · have : (a < i + 1) ↔ (a < i) := by omega
          simp [e, this]
      have hil : decide ((i : Int) < (l.length : Int)) = true := by simpa using hi
      rw [hset] at h1
      generalize rowf l.length (fun a => if a < i then rowf l.length (E l a) else []) = Y at *
      simp only [F18_L0, hm2, hy, Option.bind_some, hil, cond_true, w64_succ hi (by omega), Int.toNat_natCast, h1, Ctl.on])
    (by
      have : rowf l.length (fun a => if a < l.length then rowf l.length (E l a) else []) = mat l.length (E l) := rowf_congr fun a ha => by simp [ha]
      simp [F18_L0, this]) (by intro s h; cases h)
  have h0 : rowf l.length (fun a => if a < 0 then rowf l.length (E l a) else []) = List.replicate l.length [] := by
    apply List.ext_getElem?
    intro b
    by_cases hb : b < l.length
    · rw [rowf_get hb, List.getElem?_replicate, if_pos hb]; simp
    · rw [List.getElem?_eq_none (by rw [rowf_len]; omega), List.getElem?_eq_none (by simp; omega)]
  rw [h0] at hw
  have hw' : whileM (F18_L0 l) (List.replicate l.length [], 0) = some (.brk (mat l.length (E l))) := hw
  unfold F18
  rw [hm1]
  simp only [Option.bind_some, hw', Ctl.on, f18_l2 hl]
theorem mat_at {l : List Ev} {a b : Nat} (ha : a < l.length) (hb : b < l.length) {β : Type} (f : Bool → Option β) : (Option.bind (idx (mat l.length (T l)) (a : Int)) fun (x : List Bool) => Option.bind (idx x (b : Int)) f) = f (T l a b) := by
  have h1 : idx (mat l.length (T l)) (a : Int) = some (rowf l.length (T l a)) := rowf_idx ha
  have h2 : idx (rowf l.length (T l a)) (b : Int) = some (T l a b) := rowf_idx hb
  rw [h1, Option.bind_some, h2, Option.bind_some]

/-! The program's words. -/
structure Pst (n : Int) (l : List Ev) (k : Nat) (t : List W32 × List (Int × W32) × List W32) : Prop where
  len : t.1.length = l.length
  len2 : t.2.2.length = n.toNat
  past : ∀ j, j < k → ∀ i, (wd t.1 j).getLsbD i = T l i j
  last : ∀ p, p < n.toNat → ∀ i, (wd t.2.2 p).getLsbD i = true ↔ ∃ m a, m < k ∧ l[m]? = some a ∧ a.1.toNat = p ∧ (i = m ∨ T l i m = true)
  sent : ∀ x i, (mgetG 0#32 t.2.1 x).getLsbD i = true ↔ ∃ m a, m < k ∧ l[m]? = some a ∧ a.2.1 = 2 ∧ a.2.2 = x ∧ (i = m ∨ T l i m = true)
def pw (k : Nat) (e : Ev) (t : List W32 × List (Int × W32) × List W32) : W32 := cond (e.2.1 == 3) (wd t.2.2 e.1.toNat ||| mgetG 0#32 t.2.1 e.2.2) (wd t.2.2 e.1.toNat)
def pstep (l : List Ev) (k : Nat) (t : List W32 × List (Int × W32) × List W32) : List W32 × List (Int × W32) × List W32 := match l[k]? with
  | none => t
  | some e => (t.1.set k (pw k e t), cond (e.2.1 == 2) (msetG t.2.1 e.2.2 (pw k e t ||| (1#32 <<< k))) t.2.1, t.2.2.set e.1.toNat (pw k e t ||| (1#32 <<< k)))
theorem wd_set' {y : List W32} {i b : Nat} {v : W32} (hi : i < y.length) : wd (y.set i v) b = if b = i then v else wd y b := by
  unfold wd
  rw [List.getD_eq_getElem?_getD, List.getD_eq_getElem?_getD, List.getElem?_set]
  by_cases c : i = b
  · subst c; simp [hi]
  · have : ¬ b = i := fun e => c e.symm
    simp [c, this]
theorem toNat_eq {a b : Int} (ha : 0 ≤ a) (hb : 0 ≤ b) (h : a.toNat = b.toNat) : a = b := by omega
theorem pst_step {n : Int} {l : List Ev} (g : Good n l) {k : Nat} {t : List W32 × List (Int × W32) × List W32} (hk : k < l.length) (I : Pst n l k t) : Pst n l (k + 1) (pstep l k t) := by
  have hg : l[k]? = some l[k] := List.getElem?_eq_getElem hk
  generalize l[k] = e at hg
  have hp := g.proc hg
  have hl := g.len
  have hpn : e.1.toNat < n.toNat := by omega
  have hpw : ∀ i, (pw k e t).getLsbD i = T l i k := fun i => by
    rw [Bool.eq_iff_iff, T_last]
    have h1 := I.last e.1.toNat hpn i
    have h2 := I.sent e.2.2 i
    constructor
    · intro h
      have h' : (wd t.2.2 e.1.toNat).getLsbD i = true ∨ (e.2.1 = 3 ∧ (mgetG 0#32 t.2.1 e.2.2).getLsbD i = true) := by
        unfold pw at h
        cases c : (e.2.1 == 3) with
        | true =>
          rw [c, cond_true, BitVec.getLsbD_or, Bool.or_eq_true] at h
          exact h.imp id fun q => ⟨by simpa using c, q⟩
        | false => rw [c, cond_false] at h; exact .inl h
      rcases h' with h' | ⟨c, h'⟩
      · obtain ⟨m, a, hm, ha, hpr, hi⟩ := h1.1 h'
        exact ⟨m, E_iff.2 ⟨a, e, ha, hg, hm, .inl (toNat_eq (g.proc ha).1 hp.1 hpr)⟩, hi⟩
      · obtain ⟨m, a, hm, ha, hk2, hx, hi⟩ := h2.1 h'
        exact ⟨m, E_iff.2 ⟨a, e, ha, hg, hm, .inr ⟨hk2, c, hx⟩⟩, hi⟩
    · rintro ⟨m, hE, hi⟩
      obtain ⟨a, b, ha, hb, hm, hor⟩ := E_iff.1 hE
      rw [hg] at hb
      obtain rfl := Option.some.inj hb
      have hA : a.1 = e.1 → (wd t.2.2 e.1.toNat).getLsbD i = true := fun q => h1.2 ⟨m, a, hm, ha, by rw [q], hi⟩
      unfold pw
      rcases hor with q | ⟨q1, q2, q3⟩
      · have := hA q
        cases (e.2.1 == 3) <;> simp [this]
      · have c : (e.2.1 == 3) = true := by simpa using q2
        have := h2.2 ⟨m, a, hm, ha, q1, q3, hi⟩
        rw [c, cond_true, BitVec.getLsbD_or, this, Bool.or_true]
  have hlw : ∀ i, (pw k e t ||| (1#32 <<< k)).getLsbD i = true ↔ (i = k ∨ T l i k = true) := fun i => by
    rw [BitVec.getLsbD_or, Bool.or_eq_true, hpw, bit_one (show k < 32 by omega), decide_eq_true_eq]
    exact Or.comm
  have hst : pstep l k t = (t.1.set k (pw k e t), cond (e.2.1 == 2) (msetG t.2.1 e.2.2 (pw k e t ||| (1#32 <<< k))) t.2.1, t.2.2.set e.1.toNat (pw k e t ||| (1#32 <<< k))) := by unfold pstep; rw [hg]
  rw [hst]
  refine ⟨by simpa using I.len, by simpa using I.len2, fun j hj i => ?_, fun p hpp i => ?_, fun x i => ?_⟩
  · rw [wd_set' (by rw [I.len]; exact hk)]
    by_cases c : j = k
    · subst c; simpa using hpw i
    · simp only [c, if_false]; exact I.past j (by omega) i
  · rw [wd_set' (by rw [I.len2]; exact hpn)]
    by_cases c : p = e.1.toNat
    · subst c
      simp only [if_true]
      rw [hlw]
      constructor
      · rintro h
        exact ⟨k, e, by omega, hg, rfl, h⟩
      · rintro ⟨m, a, hm, ha, hpr, hi⟩
        by_cases c : m = k
        · subst c; exact hi
        · right
          rw [T_last]
          exact ⟨m, E_iff.2 ⟨a, e, ha, hg, by omega, .inl (toNat_eq (g.proc ha).1 hp.1 hpr)⟩, hi⟩
    · simp only [c, if_false]
      rw [I.last p hpp i]
      constructor
      · rintro ⟨m, a, hm, h⟩; exact ⟨m, a, by omega, h⟩
      · rintro ⟨m, a, hm, ha, hpr, hi⟩
        refine ⟨m, a, ?_, ha, hpr, hi⟩
        by_cases q : m = k
        · subst q; rw [hg] at ha; obtain rfl := Option.some.inj ha; exact absurd hpr.symm c
        · omega
  · cases c : (e.2.1 == 2) with
    | true =>
      rw [cond_true, mgetG_set]
      have he : e.2.1 = 2 := by simpa using c
      by_cases q : x = e.2.2
      · subst q
        simp only [if_true]
        rw [hlw]
        constructor
        · intro h; exact ⟨k, e, by omega, hg, he, rfl, h⟩
        · rintro ⟨m, a, hm, ha, h2, hx, hi⟩
          by_cases r : m = k
          · subst r; exact hi
          · exact (g.once ha hg (by omega) h2 he hx).elim
      · simp only [q, if_false]
        rw [I.sent x i]
        constructor
        · rintro ⟨m, a, hm, h⟩; exact ⟨m, a, by omega, h⟩
        · rintro ⟨m, a, hm, ha, h2, hx, hi⟩
          refine ⟨m, a, ?_, ha, h2, hx, hi⟩
          by_cases r : m = k
          · subst r; rw [hg] at ha; obtain rfl := Option.some.inj ha; exact absurd hx.symm q
          · omega
    | false =>
      rw [cond_false, I.sent x i]
      have he : ¬ e.2.1 = 2 := by simpa using c
      constructor
      · rintro ⟨m, a, hm, h⟩; exact ⟨m, a, by omega, h⟩
      · rintro ⟨m, a, hm, ha, h2, hx, hi⟩
        refine ⟨m, a, ?_, ha, h2, hx, hi⟩
        by_cases r : m = k
        · subst r; rw [hg] at ha; obtain rfl := Option.some.inj ha; exact absurd h2 he
        · omega
/-- The program's words say what is ahead. -/
theorem f40_val {n : Int} {l : List Ev} (g : Good n l) : ∃ past : List W32, F40 n l = some past ∧ past.length = l.length ∧ ∀ j, j < l.length → ∀ i, (wd past j).getLsbD i = T l i j := by
  have hl := g.len
  have hn1 := g.n1
  have hn6 := g.n6
  have wd_rep : ∀ m j, wd (List.replicate m 0#32) j = 0#32 := fun m j => by
    unfold wd; rw [List.getD_eq_getElem?_getD, List.getElem?_replicate]; split <;> rfl
  have hm1 : mkl n 4 (0 : BitVec 32) = some (List.replicate n.toNat 0#32) := by unfold mkl; rw [if_pos ⟨by omega, by omega, by omega⟩]; rfl
  have hm2 : mkl (l.length : Int) 4 (0 : BitVec 32) = some (List.replicate l.length 0#32) := by unfold mkl; rw [if_pos ⟨by omega, by omega, by omega⟩]; simp
  have I0 : Pst n l 0 (List.replicate l.length 0#32, [], List.replicate n.toNat 0#32) := by
    refine ⟨by simp, by simp, fun j hj => by omega, fun p hp i => ?_, fun x i => ?_⟩
    · rw [wd_rep]; simp
    · rw [mgetG_nil]; simp
  have hw := while_foldI (body := F40_L0 l) (fun k (t : List W32 × List (Int × W32) × List W32) => (t.1, t.2.1, t.2.2, (k : Int))) l.length (pstep l) id (fun k t => Pst n l k t) (List.replicate l.length 0#32, [], List.replicate n.toNat 0#32) I0
    (fun k t hk I => by
      refine ⟨?_, pst_step g hk I⟩
      have hg : l[k]? = some l[k] := List.getElem?_eq_getElem hk
      generalize l[k] = e at hg
      have hp := g.proc hg
      obtain ⟨y12, y14, y15⟩ := t
      have hlen : y12.length = l.length := I.len
      have hlen2 : y15.length = n.toNat := I.len2
      have i1 : idx y15 e.1 = some (wd y15 e.1.toNat) := by unfold idx; rw [if_pos hp.1, get_wd (by omega)]
      have i2 : idx y12 (k : Int) = some (wd y12 k) := idx_some (get_wd (by omega))
      have i3 : ∀ v, idx (y12.set k v) (k : Int) = some v := fun v => idx_some (by rw [List.getElem?_set_self]; omega)
      have i4 : ∀ v, idx (y15.set e.1.toNat v) e.1 = some v := fun v => by unfold idx; rw [if_pos hp.1, List.getElem?_set_self]; omega
      have hst : pstep l k (y12, y14, y15) = (y12.set k (pw k e (y12, y14, y15)), cond (e.2.1 == 2) (msetG y14 e.2.2 (pw k e (y12, y14, y15) ||| (1#32 <<< k))) y14, y15.set e.1.toNat (pw k e (y12, y14, y15) ||| (1#32 <<< k))) := by unfold pstep; rw [hg]
      rw [hst]
      have hkl : decide ((k : Int) < (l.length : Int)) = true := by simpa using hk
      unfold pw
      simp only [F40_L0, idx_some hg, i1, i2, i3, Option.bind_some, hkl, cond_true, w64_succ hk (by omega), Int.toNat_natCast, List.set_set]
      cases (e.2.1 == 3) <;> cases (e.2.1 == 2) <;> simp [i3, i4, shc_nat, List.set_set])
    (fun t I => by simp [F40_L0])
  obtain ⟨hw1, hw2⟩ := hw
  refine ⟨_, ?_, hw2.len, fun j hj => hw2.past j hj⟩
  unfold F40
  rw [hm1, hm2]
  simp only [Option.bind_some]
  have hw1' : whileM (F40_L0 l) (List.replicate l.length 0#32, ([] : List (Int × W32)), List.replicate n.toNat 0#32, 0) = _ := hw1
  rw [hw1']
  rfl
end Go.Proofs.Ytmfidlalejdikaa
