/-
  The plain laws of WaitAlls and WaitAnys: who is stuck. Words of 32 bits are sets of processes.
-/
import Derived.Test.YtmlfflaelbofmaaPQuorumFulls
namespace Go.Proofs.Ytmlfflaelbofmaa
open Go Go.Bk
set_option linter.unusedVariables false
set_option linter.unusedSimpArgs false
set_option linter.unusedSectionVars false

/-! Sets. -/
def le (s t : W32) : Prop := ∀ b, s.getLsbD b = true → t.getLsbD b = true
theorem le_rfl (s : W32) : le s s := fun _ h => h
theorem le_trans {s t u : W32} (h : le s t) (k : le t u) : le s u := fun b x => k b (h b x)
theorem le_or (s m : W32) : le s (s ||| m) := fun b h => by simp [h]
theorem le_antisymm {s t : W32} (h : le s t) (k : le t s) : s = t := BitVec.eq_of_getLsbD_eq fun i _ => by
  cases x : s.getLsbD i <;> cases y : t.getLsbD i
  · rfl
  · have := k i y; rw [x] at this; cases this
  · have := h i x; rw [y] at this; cases this
  · rfl
def lim (n : Nat) (s : W32) : Prop := ∀ b, s.getLsbD b = true → b < n
def cnt (n : Nat) (s : W32) : Nat := (List.range n).countP (fun b => s.getLsbD b)
theorem countP_lt {α : Type} (p q : α → Bool) : ∀ (l : List α), (∀ x ∈ l, p x = true → q x = true) → (∃ x ∈ l, p x = false ∧ q x = true) → l.countP p < l.countP q
  | [], _, ⟨x, hx, _⟩ => by simp at hx
  | a :: l, h, ⟨x, hx, hp, hq⟩ => by
    have hle : l.countP p ≤ l.countP q := List.countP_mono_left fun y hy => h y (List.mem_cons_of_mem a hy)
    rw [List.countP_cons, List.countP_cons]
    rcases List.mem_cons.1 hx with e | e
    · subst e; rw [hp, hq]; simp; omega
    · have := countP_lt p q l (fun y hy => h y (List.mem_cons_of_mem a hy)) ⟨x, e, hp, hq⟩
      have ha := h a (by simp)
      cases c : p a <;> cases d : q a <;> simp_all <;> omega
theorem cnt_lt {n : Nat} {s t : W32} (h : le s t) (ht : lim n t) (hne : s ≠ t) : cnt n s < cnt n t := by
  refine countP_lt _ _ _ (fun x _ => h x) ?_
  apply Classical.byContradiction
  intro hno
  apply hne
  refine le_antisymm h fun b hb => ?_
  cases c : s.getLsbD b with
  | true => rfl
  | false => exact absurd ⟨b, by simpa using ht b hb, c, hb⟩ hno
theorem cnt_full {n : Nat} {s : W32} (h : n ≤ cnt n s) : ∀ b, b < n → s.getLsbD b = true := by
  have : (List.range n).countP (fun b => s.getLsbD b) = (List.range n).length := Nat.le_antisymm List.countP_le_length (by unfold cnt at h; rw [List.length_range]; exact h)
  have := List.countP_eq_length.1 this
  intro b hb; exact this b (by simpa using hb)

/-! Passes. -/
def stp (c : Nat → W32 → Bool) (m : Nat → W32) (s : W32) (j : Nat) : W32 := cond (c j s) (s ||| m j) s
def pass (n : Nat) (c : Nat → W32 → Bool) (m : Nat → W32) (s : W32) : W32 := (List.range n).foldl (stp c m) s
def iter (n : Nat) (c : Nat → W32 → Bool) (m : Nat → W32) (s : W32) : W32 := (List.range n).foldl (fun t _ => pass n c m t) s
section
variable {n : Nat} {c : Nat → W32 → Bool} {m : Nat → W32}
theorem stp_le (s : W32) (j : Nat) : le s (stp c m s j) := by unfold stp; cases c j s; exact le_rfl s; exact le_or s _
theorem foldl_le : ∀ (l : List Nat) (s : W32), le s (l.foldl (stp c m) s)
  | [], s => le_rfl s
  | j :: l, s => le_trans (stp_le s j) (foldl_le l _)
theorem foldl_fix : ∀ (l : List Nat) (s : W32), l.foldl (stp c m) s = s → ∀ j ∈ l, stp c m s j = s
  | [], s, _, j, hj => by simp at hj
  | i :: l, s, h, j, hj => by
    rw [List.foldl_cons] at h
    have h1 : stp c m s i = s := le_antisymm (by have := foldl_le (c := c) (m := m) l (stp c m s i); rw [h] at this; exact this) (stp_le s i)
    rcases List.mem_cons.1 hj with e | e
    · subst e; exact h1
    · rw [h1] at h; exact foldl_fix l s h j e
theorem foldl_inv {σ : Type} {f : σ → Nat → σ} {I : σ → Prop} : ∀ (l : List Nat) (s : σ), I s → (∀ j ∈ l, ∀ s, I s → I (f s j)) → I (l.foldl f s)
  | [], s, h, _ => h
  | j :: l, s, h, k => foldl_inv l _ (k j (by simp) s h) fun i hi => k i (List.mem_cons_of_mem j hi)
theorem pass_inv {I : W32 → Prop} {s : W32} (h : I s) (k : ∀ j, j < n → ∀ s, I s → c j s = true → I (s ||| m j)) : I (pass n c m s) :=
  foldl_inv _ s h fun j hj s hs => by
    unfold stp
    cases x : c j s with
    | true => exact k j (by simpa using hj) s hs x
    | false => exact hs
theorem iter_inv {I : W32 → Prop} {s : W32} (h : I s) (k : ∀ j, j < n → ∀ s, I s → c j s = true → I (s ||| m j)) : I (iter n c m s) :=
  foldl_inv _ s h fun _ _ s hs => pass_inv hs k
theorem lim_or {s t : W32} (h : lim n s) (k : lim n t) : lim n (s ||| t) := fun b hb => by
  rw [BitVec.getLsbD_or, Bool.or_eq_true] at hb; exact hb.elim (h b) (k b)
theorem pass_lim {s : W32} (h : lim n s) (hm : ∀ j, j < n → lim n (m j)) : lim n (pass n c m s) := pass_inv h fun j hj s hs _ => lim_or hs (hm j hj)
theorem iter_fix {s : W32} (hs : lim n s) (hm : ∀ j, j < n → lim n (m j)) : pass n c m (iter n c m s) = iter n c m s := by
  have key : ∀ k, let t := (List.range k).foldl (fun t _ => pass n c m t) s; lim n t ∧ (pass n c m t = t ∨ k ≤ cnt n t) := by
    intro k
    induction k with
    | zero => exact ⟨hs, .inr (Nat.zero_le _)⟩
    | succ k ih =>
      obtain ⟨h1, h2⟩ := ih
      rw [List.range_succ, List.foldl_append]
      simp only [List.foldl_cons, List.foldl_nil]
      refine ⟨pass_lim h1 hm, ?_⟩
      by_cases e : pass n c m ((List.range k).foldl (fun t _ => pass n c m t) s) = (List.range k).foldl (fun t _ => pass n c m t) s
      · left; rw [e]; exact e
      · right
        have := cnt_lt (foldl_le _ _) (pass_lim h1 hm) (Ne.symm e)
        have h3 := h2.resolve_left e
        simp only [pass] at *
        omega
  obtain ⟨h1, h2⟩ := key n
  rcases h2 with h2 | h2
  · exact h2
  · refine (le_antisymm (foldl_le _ _) fun b hb => ?_).symm
    exact cnt_full h2 b (pass_lim h1 hm b hb)
theorem iter_closed {s : W32} (hs : lim n s) (hm : ∀ j, j < n → lim n (m j)) {j : Nat} (hj : j < n) (hc : c j (iter n c m s) = true) : le (m j) (iter n c m s) := by
  have := foldl_fix (c := c) (m := m) (List.range n) _ (iter_fix hs hm) j (by simpa using hj)
  unfold stp at this
  rw [hc] at this
  intro b hb
  rw [← this]
  simp [hb]
theorem iter_le (s : W32) : le s (iter n c m s) := foldl_inv (I := fun t => le s t) _ s (le_rfl s) fun _ _ t ht => le_trans ht (foldl_le _ t)
end

/-! One bit. -/
theorem bit_one {i b : Nat} (hi : i < 32) : (1#32 <<< i).getLsbD b = decide (b = i) := by
  rw [BitVec.getLsbD_shiftLeft]
  by_cases h : b = i
  · subst h; simp [hi]
  · by_cases h1 : b < i
    · simp [h, h1]
    · have : (1#32).getLsbD (b - i) = false := by
        have : b - i ≠ 0 := by omega
        simp [BitVec.getLsbD_one, this]
      simp [h, this]
theorem and_bit {w : W32} {j : Nat} (hj : j < 32) : ((w &&& (1#32 <<< j)) != 0#32) = w.getLsbD j := by
  rw [Bool.eq_iff_iff, bne_iff_ne]
  constructor
  · intro h
    cases c : w.getLsbD j with
    | true => rfl
    | false =>
      exfalso; apply h
      apply BitVec.eq_of_getLsbD_eq
      intro i hi
      rw [BitVec.getLsbD_and, bit_one hj]
      by_cases e : i = j
      · subst e; simp [c]
      · simp [e]
  · intro h e
    have := congrArg (fun x => x.getLsbD j) e
    simp only [BitVec.getLsbD_and, bit_one hj, h] at this
    simp at this
theorem f29_val {w : W32} {j : Nat} (hj : j < 32) : F29 w (j : Int) = some (w.getLsbD j) := by
  unfold F29
  rw [u64_nat (by omega), and_bit hj]
  have h1 : decide ((j : Int) ≥ 0) = true := by simp
  have h2 : decide ((j : Int) < 32) = true := by simp; omega
  rw [h1, h2]; simp
theorem and_ne {w s : W32} : ((w &&& s) != 0#32) = true ↔ ∃ b, w.getLsbD b = true ∧ s.getLsbD b = true := by
  rw [bne_iff_ne]
  constructor
  · intro h
    apply Classical.byContradiction
    intro hno
    apply h
    apply BitVec.eq_of_getLsbD_eq
    intro i hi
    cases x : w.getLsbD i <;> cases y : s.getLsbD i <;> simp [x, y]
    exact hno ⟨i, x, y⟩
  · rintro ⟨b, h1, h2⟩ e
    have := congrArg (fun x => x.getLsbD b) e
    simp [h1, h2] at this
theorem andn_le {w s : W32} : ((w &&& ~~~s) == 0#32) = true ↔ le w s := by
  rw [andn_or, beq_iff_eq]
  constructor
  · intro h b hb; rw [← h]; simp [hb]
  · intro h; exact (le_antisymm (fun b hb => by rw [BitVec.getLsbD_or]; simp [hb]) (fun b hb => by rw [BitVec.getLsbD_or, Bool.or_eq_true] at hb; exact hb.elim (h b) id)).symm

/-! The models. -/
section
variable {l : List W32}
def wd (l : List W32) (j : Nat) : W32 := l.getD j 0#32
theorem get_wd {j : Nat} (h : j < l.length) : l[j]? = some (wd l j) := by simp [wd, List.getD_eq_getElem?_getD, List.getElem?_eq_getElem h]

theorem waitCheck_same (hl : l.length ≤ 9223372036854775807) : F52 l = F23 l ∧ ∃ r, F23 l = some r ∧ (r = 0 → 1 ≤ l.length ∧ l.length ≤ 6 ∧ ∀ j, j < l.length → lim l.length (wd l j)) := by
  unfold F52 F23
  cases c : ((decide ((l.length : Int) < 1)) || (decide ((l.length : Int) > 6))) with
  | true => refine ⟨rfl, 1, rfl, by simp⟩
  | false =>
    simp only [Bool.or_eq_false_iff, decide_eq_false_iff_not] at c
    have hn : l.length < 32 := by omega
    have h1 : whileM (F52_L0 l) 0 = some (found () (cond (l.any (fun x => decide (1#32 <<< l.length ≤ x))) (some 4) none)) := by
      rw [← scan_any (k := 0)]
      refine while_scan hl _ (fun k e h => ?_) (by simp [F52_L0])
      have hk := lt_of_get h
      cases c : decide (1#32 <<< l.length ≤ e) <;> simp only [F52_L0, idx_some h, shc_nat, shr_ne hn, c, going, Option.bind_some] <;> simp_all
    have h2 : whileM (F23_L0 l) 0 = some (found () (cond (l.any (fun x => decide (1#32 <<< l.length ≤ x))) (some 4) none)) := by
      rw [← scan_any (k := 0)]
      refine while_scan hl _ (fun k e h => ?_) (by simp [F23_L0])
      have hk := lt_of_get h
      cases c : decide (1#32 <<< l.length ≤ e) <;> simp only [F23_L0, idx_some h, u64_nat (show l.length ≤ 18446744073709551615 by omega), c, going, Option.bind_some] <;> simp_all
    rw [h1, h2]
    cases d : l.any (fun x => decide (1#32 <<< l.length ≤ x)) with
    | true => exact ⟨rfl, 4, rfl, by simp⟩
    | false =>
      refine ⟨rfl, 0, rfl, fun _ => ⟨by omega, by omega, fun j hj b hb => ?_⟩⟩
      rw [List.any_eq_false] at d
      have := d (wd l j) (List.mem_of_getElem? (get_wd hj))
      simp only [decide_eq_true_eq, BitVec.le_def, one_shl hn] at this
      apply Classical.byContradiction
      intro hb'
      have hlt : (wd l j).toNat < 2 ^ b := Nat.lt_of_lt_of_le (by omega) (Nat.pow_le_pow_right (n := 2) (by decide) (show l.length ≤ b by omega))
      rw [BitVec.getLsbD, Nat.testBit_lt_two_pow hlt] at hb
      cases hb

def cR (j : Nat) (s : W32) : Bool := s.getLsbD j
def R (l : List W32) (i : Nat) : W32 := iter l.length cR (wd l) (wd l i)
theorem f28_val (hn : l.length ≤ 6) {i : Nat} (hi : i < l.length) : F28 l (i : Int) = some (R l i) := by
  have h1 : ∀ s, whileM (F28_L1 l) (s, 0) = some (.brk (pass l.length cR (wd l) s)) := fun s =>
    while_foldN (fun k t => (t, (k : Int))) l.length (fun k t => stp cR (wd l) t k) id s
      (fun k t hk => by
        simp only [F28_L1, f29_val (show k < 32 by omega), idx_some (get_wd hk), Option.bind_some, w64_succ hk (by omega)]
        unfold stp cR
        cases t.getLsbD k <;> simp [hk])
      (fun t => by simp [F28_L1])
  have h0 : ∀ s, whileM (F28_L0 l) (s, 0) = some (.brk (iter l.length cR (wd l) s)) := fun s =>
    while_foldN (fun k t => (t, (k : Int))) l.length (fun k t => pass l.length cR (wd l) t) id s
      (fun k t hk => by simp only [F28_L0, h1, Option.bind_some, w64_succ hk (by omega)]; simp [hk])
      (fun t => by simp [F28_L0])
  unfold F28
  rw [idx_some (get_wd hi)]
  simp only [Option.bind_some, h0]
  rfl

def cF (p : W32 → W32 → Bool) (l : List W32) (j : Nat) (s : W32) : Bool := wd l j == 0#32 || p (wd l j) s
def bt1 (j : Nat) : W32 := 1#32 <<< j
def Fr (p : W32 → W32 → Bool) (l : List W32) : W32 := iter l.length (cF p l) bt1 0#32
theorem f49_val (hn : l.length ≤ 6) {f : W32 × W32 → Option Bool} {p : W32 → W32 → Bool} (hf : ∀ a b, f (a, b) = some (p a b)) (h52 : F52 l = some 0) :
    F49 l f = some (((1#32 <<< l.length) - 1#32) - Fr p l, 0) := by
  have h1 : ∀ s, whileM (F49_L1 l f) (s, 0) = some (.brk (pass l.length (cF p l) bt1 s)) := fun s =>
    while_foldN (fun k t => (t, (k : Int))) l.length (fun k t => stp (cF p l) bt1 t k) id s
      (fun k t hk => by
        simp only [F49_L1, hf, idx_some (get_wd hk), Option.bind_some, w64_succ hk (by omega), shc_nat]
        unfold stp cF bt1
        cases (wd l k == 0#32) <;> cases p (wd l k) t <;> simp [hk])
      (fun t => by simp [F49_L1])
  have h0 : ∀ s, whileM (F49_L0 l f) (s, 0) = some (.brk (iter l.length (cF p l) bt1 s)) := fun s =>
    while_foldN (fun k t => (t, (k : Int))) l.length (fun k t => pass l.length (cF p l) bt1 t) id s
      (fun k t hk => by simp only [F49_L0, h1, Option.bind_some, w64_succ hk (by omega)]; simp [hk])
      (fun t => by simp [F49_L0])
  unfold F49
  rw [h52]
  simp only [Option.bind_some, h0, shc_nat]
  rfl

theorem fold_any (t w : W32) (q : Nat → Bool) : ∀ (ks : List Nat), ks.foldl (fun t k => cond (q k) (t ||| w) t) t = cond (ks.any q) (t ||| w) t
  | [] => rfl
  | k :: ks => by
    rw [List.foldl_cons, List.any_cons]
    cases c : q k with
    | true =>
      rw [cond_true, fold_any]
      have : (t ||| w) ||| w = t ||| w := by rw [BitVec.or_assoc, BitVec.or_self]
      simp [this]
    | false => rw [cond_false, fold_any]; simp
theorem fold_bits (Q : Nat → Bool) : ∀ n, n ≤ 32 → ∀ b, ((List.range n).foldl (fun t k => cond (Q k) (t ||| (1#32 <<< k)) t) 0#32).getLsbD b = (decide (b < n) && Q b)
  | 0, _, b => by simp
  | n + 1, hn, b => by
    rw [List.range_succ, List.foldl_append]
    simp only [List.foldl_cons, List.foldl_nil]
    have ih := fold_bits Q n (by omega) b
    cases c : Q n with
    | true =>
      rw [cond_true, BitVec.getLsbD_or, ih, bit_one (by omega)]
      by_cases e : b = n
      · subst e; simp [c]
      · have : (b < n + 1) ↔ (b < n) := by omega
        simp [e, this]
    | false =>
      rw [cond_false, ih]
      by_cases e : b = n
      · subst e; simp [c]
      · have : (b < n + 1) ↔ (b < n) := by omega
        simp [this]
/-- comes from i to j -/
def rch (l : List W32) (i j : Nat) : Bool := (R l i ||| (1#32 <<< i)).getLsbD j
theorem rch_iff {i j : Nat} (hi : i < 32) : rch l i j = true ↔ (R l i).getLsbD j = true ∨ j = i := by
  unfold rch; rw [BitVec.getLsbD_or, bit_one hi]; simp
theorem f24_val (hn : l.length ≤ 6) : F24 l = some ((List.range l.length).foldl (fun t k => cond ((List.range l.length).any (fun j => rch l k j && (R l j).getLsbD j)) (t ||| (1#32 <<< k)) t) 0#32) := by
  have h1 : ∀ (i : Nat) s, i < l.length → whileM (F24_L1 l (i : Int) (R l i)) (s, 0) = some (.brk (cond ((List.range l.length).any (fun j => rch l i j && (R l j).getLsbD j)) (s ||| (1#32 <<< i)) s)) := fun i s hi => by
    rw [← fold_any]
    exact while_foldN (fun k t => (t, (k : Int))) l.length (fun k t => cond (rch l i k && (R l k).getLsbD k) (t ||| (1#32 <<< i)) t) id s
      (fun k t hk => by
        simp only [F24_L1, f29_val (show k < 32 by omega), f28_val hn hk, Option.bind_some, w64_succ hk (by omega), u64_nat (show i ≤ 18446744073709551615 by omega)]
        have e : rch l i k = (R l i ||| (1#32 <<< i)).getLsbD k := rfl
        rw [← e]
        cases rch l i k <;> cases (R l k).getLsbD k <;> simp [hk])
      (fun t => by simp [F24_L1])
  unfold F24
  rw [show whileM (F24_L0 l) (0#32, 0) = _ from while_foldN (fun k t => (t, (k : Int))) l.length (fun i s => cond ((List.range l.length).any (fun j => rch l i j && (R l j).getLsbD j)) (s ||| (1#32 <<< i)) s) id 0#32
    (fun k t hk => by simp only [F24_L0, f28_val hn hk, h1 k t hk, Option.bind_some, w64_succ hk (by omega)]; simp [hk])
    (fun t => by simp [F24_L0])]
  rfl
theorem fold_or (q : Nat → Bool) : ∀ (ks : List Nat) (t : Bool), ks.foldl (fun t k => t || q k) t = (t || ks.any q)
  | [], t => by simp
  | k :: ks, t => by rw [List.foldl_cons, fold_or, List.any_cons, Bool.or_assoc]
theorem f26_val (hn : l.length ≤ 6) : F26 l = some ((List.range l.length).foldl (fun t k => cond (!(List.range l.length).any (fun j => rch l k j && wd l j == 0#32)) (t ||| (1#32 <<< k)) t) 0#32) := by
  have h1 : ∀ (i : Nat), i < l.length → whileM (F26_L1 l (i : Int) (R l i)) (false, 0) = some (.brk ((List.range l.length).any (fun j => rch l i j && wd l j == 0#32))) := fun i hi => by
    have := fold_or (fun j => rch l i j && wd l j == 0#32) (List.range l.length) false
    rw [Bool.false_or] at this
    rw [← this]
    exact while_foldN (fun k t => (t, (k : Int))) l.length (fun k t => t || (rch l i k && wd l k == 0#32)) id false
      (fun k t hk => by
        simp only [F26_L1, f29_val (show k < 32 by omega), idx_some (get_wd hk), Option.bind_some, w64_succ hk (by omega), u64_nat (show i ≤ 18446744073709551615 by omega)]
        have e : rch l i k = (R l i ||| (1#32 <<< i)).getLsbD k := rfl
        rw [← e]
        cases t <;> cases rch l i k <;> cases (wd l k == 0#32) <;> simp [hk])
      (fun t => by simp [F26_L1])
  unfold F26
  rw [show whileM (F26_L0 l) (0#32, 0) = _ from while_foldN (fun k t => (t, (k : Int))) l.length (fun i s => cond (!(List.range l.length).any (fun j => rch l i j && wd l j == 0#32)) (s ||| (1#32 <<< i)) s) id 0#32
    (fun k t hk => by
      simp only [F26_L0, f28_val hn hk, h1 k hk, Option.bind_some, w64_succ hk (by omega), u64_nat (show k ≤ 18446744073709551615 by omega)]
      cases (List.range l.length).any (fun j => rch l k j && wd l j == 0#32) <;> simp [hk])
    (fun t => by simp [F26_L0])]
  rfl

/-! What the two are. -/
variable (hn : l.length ≤ 6) (hw : ∀ j, j < l.length → lim l.length (wd l j))
theorem lim_bt1 (hn : l.length ≤ 6) : ∀ j, j < l.length → lim l.length (bt1 j) := fun j hj b hb => by
  unfold bt1 at hb; rw [bit_one (by omega)] at hb; simp at hb; omega
theorem lim_zero : lim l.length 0#32 := fun b hb => by simp at hb
include hw in
theorem R_lim {i : Nat} (hi : i < l.length) : lim l.length (R l i) := iter_inv (I := lim l.length) (hw i hi) fun j hj s hs _ => lim_or hs (hw j hj)
include hw in
theorem R_step {i j : Nat} (hi : i < l.length) (hj : (R l i).getLsbD j = true) : le (wd l j) (R l i) :=
  iter_closed (hw i hi) hw (R_lim hw hi j hj) hj
theorem R_base {i : Nat} : le (wd l i) (R l i) := iter_le _
include hw in
theorem R_least {i : Nat} (hi : i < l.length) (S : Nat → Prop) (h0 : ∀ b, (wd l i).getLsbD b = true → S b) (h1 : ∀ j, j < l.length → S j → ∀ b, (wd l j).getLsbD b = true → S b) : ∀ b, (R l i).getLsbD b = true → S b :=
  iter_inv (I := fun s => ∀ b, s.getLsbD b = true → S b) h0 fun j hj s hs hc b hb => by
    rw [BitVec.getLsbD_or, Bool.or_eq_true] at hb
    exact hb.elim (hs b) (h1 j hj (hs j hc) b)
include hw in
theorem R_trans {i j : Nat} (hi : i < l.length) (hj : j < l.length) (h : (R l i).getLsbD j = true) : le (R l j) (R l i) :=
  R_least hw hj (fun b => (R l i).getLsbD b = true) (R_step hw hi h) fun k hk h1 => R_step hw hi h1
include hn in
theorem Fr_lim (p : W32 → W32 → Bool) : lim l.length (Fr p l) := iter_inv (I := lim l.length) lim_zero fun j hj s hs _ => lim_or hs (lim_bt1 hn j hj)
include hn in
theorem Fr_closed (p : W32 → W32 → Bool) {j : Nat} (hj : j < l.length) (h : cF p l j (Fr p l) = true) : (Fr p l).getLsbD j = true :=
  iter_closed lim_zero (lim_bt1 hn) hj h j (by unfold bt1; rw [bit_one (by omega)]; simp)
include hn in
theorem Fr_least (p : W32 → W32 → Bool) (S : Nat → Prop) (h : ∀ j, j < l.length → ∀ s, (∀ b, s.getLsbD b = true → b < l.length ∧ S b) → cF p l j s = true → S j) : ∀ b, (Fr p l).getLsbD b = true → S b := fun b hb =>
  (iter_inv (n := l.length) (c := cF p l) (m := bt1) (s := 0#32) (I := fun s => ∀ b, s.getLsbD b = true → b < l.length ∧ S b) (by simp) (fun j hj s hs hc b hb => by
    rw [BitVec.getLsbD_or, Bool.or_eq_true] at hb
    rcases hb with hb | hb
    · exact hs b hb
    · unfold bt1 at hb; rw [bit_one (by omega)] at hb; simp at hb; subst hb; exact ⟨hj, h b hj s hs hc⟩) b hb).2

def pAll (w s : W32) : Bool := (w &&& ~~~s) == 0#32
def pAny (w s : W32) : Bool := (w &&& s) != 0#32
include hn hw in
theorem all_iff {b : Nat} (hb : b < l.length) : (Fr pAll l).getLsbD b = false ↔ (List.range l.length).any (fun j => rch l b j && (R l j).getLsbD j) = true := by
  have hany : ∀ b, b < l.length → ((List.range l.length).any (fun j => rch l b j && (R l j).getLsbD j) = true ↔ ∃ k, k < l.length ∧ (R l b).getLsbD k = true ∧ (R l k).getLsbD k = true) := fun b hb => by
    simp only [List.any_eq_true, List.mem_range, Bool.and_eq_true, rch_iff (show b < 32 by omega)]
    constructor
    · rintro ⟨k, hk, h1 | h1, h2⟩
      · exact ⟨k, hk, h1, h2⟩
      · subst h1; exact ⟨k, hk, h2, h2⟩
    · rintro ⟨k, hk, h1, h2⟩; exact ⟨k, hk, .inl h1, h2⟩
  have hcF : ∀ j s, cF pAll l j s = true ↔ le (wd l j) s := fun j s => by
    unfold cF pAll
    rw [Bool.or_eq_true, andn_le, beq_iff_eq]
    constructor
    · rintro (h | h)
      · rw [h]; intro b hb; simp at hb
      · exact h
    · exact .inr
  constructor
  · -- who is not free comes to a round
    have key : ∀ m b, b < l.length → cnt l.length (R l b) ≤ m → (Fr pAll l).getLsbD b = false → ∃ k, k < l.length ∧ (R l b).getLsbD k = true ∧ (R l k).getLsbD k = true := by
      intro m
      induction m with
      | zero =>
        intro b hb hm hF
        exfalso
        have : ¬ le (wd l b) (Fr pAll l) := fun h => by rw [Fr_closed hn pAll hb ((hcF _ _).2 h)] at hF; cases hF
        apply this
        intro c hc
        have hR := R_base c hc
        have : 0 < cnt l.length (R l b) := List.countP_pos_iff.2 ⟨c, by simpa using hw b hb c hc, hR⟩
        omega
      | succ m ih =>
        intro b hb hm hF
        have : ∃ c, (wd l b).getLsbD c = true ∧ (Fr pAll l).getLsbD c = false := by
          apply Classical.byContradiction
          intro hno
          have : le (wd l b) (Fr pAll l) := fun c hc => by
            cases x : (Fr pAll l).getLsbD c with
            | true => rfl
            | false => exact absurd ⟨c, hc, x⟩ hno
          rw [Fr_closed hn pAll hb ((hcF _ _).2 this)] at hF; cases hF
        obtain ⟨c, hc, hFc⟩ := this
        have hcl := hw b hb c hc
        have hRc := R_base c hc
        by_cases hcc : (R l c).getLsbD c = true
        · exact ⟨c, hcl, hRc, hcc⟩
        · have hle := R_trans hw hb hcl hRc
          have hlt := cnt_lt hle (R_lim hw hb) (fun e => by rw [e] at hcc; exact hcc hRc)
          obtain ⟨k, hk, h1, h2⟩ := ih c hcl (by omega) hFc
          exact ⟨k, hk, hle k h1, h2⟩
    intro h; exact (hany b hb).2 (key _ b hb (Nat.le_refl _) h)
  · intro h
    cases x : (Fr pAll l).getLsbD b with
    | false => rfl
    | true =>
      exfalso
      refine Fr_least hn pAll (fun b => b < l.length → ¬ ∃ k, k < l.length ∧ (R l b).getLsbD k = true ∧ (R l k).getLsbD k = true) ?_ b x hb ((hany b hb).1 h)
      rintro j hj s hs hc _ ⟨k, hk, h1, h2⟩
      have hle := (hcF j s).1 hc
      obtain ⟨c, hc1, hc2⟩ := R_least hw hj (fun b => ∃ c, (wd l j).getLsbD c = true ∧ (c = b ∨ (R l c).getLsbD b = true)) (fun b hb => ⟨b, hb, .inl rfl⟩) (fun d hd ⟨c, hc, h⟩ b hb => by
        refine ⟨c, hc, .inr ?_⟩
        rcases h with h | h
        · subst h; exact R_base b hb
        · exact R_step hw (hw j hj c hc) h b hb) k h1
      obtain ⟨hcl, hS⟩ := hs c (hle c hc1)
      refine hS hcl ⟨k, hk, ?_, h2⟩
      rcases hc2 with h | h
      · subst h; exact h2
      · exact h
include hn hw in
theorem any_iff {b : Nat} (hb : b < l.length) : (Fr pAny l).getLsbD b = true ↔ (List.range l.length).any (fun j => rch l b j && wd l j == 0#32) = true := by
  have hany : ∀ b, b < l.length → ((List.range l.length).any (fun j => rch l b j && wd l j == 0#32) = true ↔ ∃ k, k < l.length ∧ ((R l b).getLsbD k = true ∨ k = b) ∧ wd l k = 0#32) := fun b hb => by
    simp only [List.any_eq_true, List.mem_range, Bool.and_eq_true, rch_iff (show b < 32 by omega), beq_iff_eq]
  have hcF : ∀ j s, cF pAny l j s = true ↔ wd l j = 0#32 ∨ ∃ b, (wd l j).getLsbD b = true ∧ s.getLsbD b = true := fun j s => by
    unfold cF pAny
    rw [Bool.or_eq_true, beq_iff_eq, and_ne]
  rw [hany b hb]
  constructor
  · intro h
    refine Fr_least hn pAny (fun b => ∃ k, k < l.length ∧ ((R l b).getLsbD k = true ∨ k = b) ∧ wd l k = 0#32) ?_ b h
    intro j hj s hs hc
    rcases (hcF j s).1 hc with h | ⟨c, h1, h2⟩
    · exact ⟨j, hj, .inr rfl, h⟩
    · obtain ⟨hcl, k, hk, h3, h4⟩ := hs c h2
      refine ⟨k, hk, .inl ?_, h4⟩
      rcases h3 with h3 | h3
      · exact R_trans hw hj hcl (R_base c h1) k h3
      · subst h3; exact R_base k h1
  · rintro ⟨k, hk, h1, h2⟩
    cases x : (Fr pAny l).getLsbD b with
    | true => rfl
    | false =>
      exfalso
      have hstep : ∀ j, j < l.length → (Fr pAny l).getLsbD j = false → ∀ d, (wd l j).getLsbD d = true → (Fr pAny l).getLsbD d = false := fun j hj hF d hd => by
        cases y : (Fr pAny l).getLsbD d with
        | false => rfl
        | true => rw [Fr_closed hn pAny hj ((hcF _ _).2 (.inr ⟨d, hd, y⟩))] at hF; cases hF
      have hk0 : (Fr pAny l).getLsbD k = false := by
        rcases h1 with h1 | h1
        · exact R_least hw hb (fun d => (Fr pAny l).getLsbD d = false) (hstep b hb x) hstep k h1
        · subst h1; exact x
      rw [Fr_closed hn pAny hk ((hcF _ _).2 (.inl h2))] at hk0
      cases hk0
theorem lim_toNat {n : Nat} {s : W32} (h : lim n s) : s.toNat < 2 ^ n := by
  apply Nat.lt_pow_two_of_testBit
  intro i hi
  cases c : s.toNat.testBit i with
  | false => rfl
  | true => have := h i c; omega
theorem ones_bit : ∀ n, n < 7 → ∀ b, b < 32 → ((1#32 <<< n) - 1#32).getLsbD b = decide (b < n) := by decide +kernel
include hn in
theorem rest_bits (F : W32) (hF : lim l.length F) (b : Nat) : (((1#32 <<< l.length) - 1#32) - F).getLsbD b = (decide (b < l.length) && !F.getLsbD b) := by
  have h := allbut l.length (by omega) F.toNat (lim_toNat hF)
  rw [BitVec.ofNat_toNat, BitVec.setWidth_eq] at h
  rw [← h, BitVec.getLsbD_and, BitVec.getLsbD_not]
  by_cases hb : b < 32
  · rw [ones_bit _ (by omega) b hb]; simp [hb]
  · have : ¬ b < l.length := by omega
    simp [hb, this]

theorem law_WaitAlls (a0 : List W32) (h : a0.length ≤ 9223372036854775807) (_ : ∀ x ∈ a0, True) : F7 a0 = some true := by
  obtain ⟨e, r, hr, h0⟩ := waitCheck_same h
  unfold F7 F22
  by_cases c : r = 0
  · subst c
    obtain ⟨h1, hn, hw⟩ := h0 rfl
    have hv : F49 a0 (fun z => F50 z.1 z.2) = _ := f49_val hn (p := pAll) (fun a b => rfl) (by rw [e, hr])
    rw [hv, hr, f24_val hn]
    have : ((1#32 <<< a0.length) - 1#32) - Fr pAll a0 = ((List.range a0.length).foldl (fun t k => cond ((List.range a0.length).any (fun j => rch a0 k j && (R a0 j).getLsbD j)) (t ||| (1#32 <<< k)) t) 0#32) := by
      apply BitVec.eq_of_getLsbD_eq
      intro b _
      rw [rest_bits hn _ (Fr_lim hn _), fold_bits _ _ (by omega)]
      by_cases hb : b < a0.length
      · have := all_iff hn hw hb
        cases x : (Fr pAll a0).getLsbD b <;> cases y : (List.range a0.length).any (fun j => rch a0 b j && (R a0 j).getLsbD j) <;> simp_all
      · simp [hb]
    simp [this]
  · have : (r != 0) = true := by simpa using c
    have h49 : F49 a0 (fun z => F50 z.1 z.2) = some (0#32, r) := by unfold F49; rw [e, hr]; simp [this]
    rw [h49, hr]
    simp [this]
theorem law_WaitAnys (a0 : List W32) (h : a0.length ≤ 9223372036854775807) (_ : ∀ x ∈ a0, True) : F8 a0 = some true := by
  obtain ⟨e, r, hr, h0⟩ := waitCheck_same h
  unfold F8 F25
  by_cases c : r = 0
  · subst c
    obtain ⟨h1, hn, hw⟩ := h0 rfl
    have hv : F49 a0 (fun z => F51 z.1 z.2) = _ := f49_val hn (p := pAny) (fun a b => rfl) (by rw [e, hr])
    rw [hv, hr, f26_val hn]
    have : ((1#32 <<< a0.length) - 1#32) - Fr pAny a0 = ((List.range a0.length).foldl (fun t k => cond (!(List.range a0.length).any (fun j => rch a0 k j && wd a0 j == 0#32)) (t ||| (1#32 <<< k)) t) 0#32) := by
      apply BitVec.eq_of_getLsbD_eq
      intro b _
      rw [rest_bits hn _ (Fr_lim hn _), fold_bits _ _ (by omega)]
      by_cases hb : b < a0.length
      · have := any_iff hn hw hb
        cases x : (Fr pAny a0).getLsbD b <;> cases y : (List.range a0.length).any (fun j => rch a0 b j && wd a0 j == 0#32) <;> simp_all
      · simp [hb]
    simp [this]
  · have : (r != 0) = true := by simpa using c
    have h49 : F49 a0 (fun z => F51 z.1 z.2) = some (0#32, r) := by unfold F49; rw [e, hr]; simp [this]
    rw [h49, hr]
    simp [this]
end
end Go.Proofs.Ytmlfflaelbofmaa
