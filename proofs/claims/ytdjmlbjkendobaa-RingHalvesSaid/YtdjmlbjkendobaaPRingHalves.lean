/-
  The plain law of RingHalves: both go on with the same halves, which grow shorter and stay without doubles.
-/
import Derived.Test.YtdjmlbjkendobaaPRingHalf
namespace Go.Proofs.Ytdjmlbjkendobaa
open Go Go.Bk
set_option linter.unusedVariables false
set_option linter.unusedSimpArgs false

def qH (l : List Int) (k : Nat) : Int := l.getD ((k + l.length - 1) % l.length) 0
def pH (l : List Int) (k : Nat) : Bool := decide (qH l k > l.getD ((k + l.length - 2) % l.length) 0) && decide (qH l k > l.getD k 0)
theorem fold_map (l : List Int) : ∀ (ks : List Nat) (t : List Int), ks.foldl (fun t k => stepH l k t) t = t ++ (ks.filter (pH l)).map (qH l)
  | [], t => by simp
  | k :: ks, t => by
    have e : stepH l k t = cond (pH l k) (t ++ [qH l k]) t := rfl
    rw [List.foldl_cons, fold_map l ks, e]
    cases c : pH l k <;> simp [c]
theorem hl_eq (l : List Int) : hl l = ((List.range l.length).filter (pH l)).map (qH l) := by
  have := fold_map l (List.range l.length) []
  rw [List.nil_append] at this
  exact this
theorem rot {n a : Nat} (h : a < n) : (a + n - 1) % n = if a = 0 then n - 1 else a - 1 := by
  split
  · rename_i e; subst e; rw [Nat.zero_add]; exact Nat.mod_eq_of_lt (by omega)
  · rw [show a + n - 1 = (a - 1) + n by omega, Nat.add_mod_right]; exact Nat.mod_eq_of_lt (by omega)
theorem dbl_nodup (l : List Int) : dbl l = none ↔ l.Nodup := by
  unfold dbl
  rw [scan_none]
  constructor
  · intro h
    refine List.pairwise_iff_getElem.2 fun i j hi hj hij heq => ?_
    have := h j l[j] (List.getElem?_eq_getElem hj)
    have hany : (l.take (0 + j)).any (fun y => l[j] == y) = true := by
      rw [List.any_eq_true]
      refine ⟨l[i], List.mem_of_getElem? (i := i) ?_, by simp [heq]⟩
      rw [List.getElem?_take, if_pos (by omega), List.getElem?_eq_getElem hi]
    rw [hany] at this
    cases this
  · intro h i e hi
    have hil := (List.getElem?_eq_some_iff.1 hi).1
    have hie := (List.getElem?_eq_some_iff.1 hi).2
    have hany : (l.take (0 + i)).any (fun y => e == y) = false := by
      rw [List.any_eq_false]
      intro y hy hc
      obtain ⟨j, hj⟩ := List.getElem?_of_mem hy
      rw [List.getElem?_take] at hj
      split at hj
      · rename_i hji
        have hjl := (List.getElem?_eq_some_iff.1 hj).1
        have hje := (List.getElem?_eq_some_iff.1 hj).2
        exact List.pairwise_iff_getElem.1 h j i hjl hil (by omega) (by rw [hje, hie]; exact (by simpa using hc : e = y).symm)
      · cases hj
    rw [hany]; rfl
theorem check_nodup (l : List Int) (h1 : 1 ≤ l.length) (h12 : l.length ≤ 12) (hlen : l.length ≤ 9223372036854775807) : F55 l = some 0 ↔ l.Nodup := by
  have h2 : whileM (F55_L0 l) 0 = some (found () ((dbl l).map (fun _ => 3))) := by
    unfold dbl
    rw [← scan_const]
    refine while_scan hlen _ (fun k e h => ?_) (by simp [F55_L0])
    have hk := lt_of_get h
    simp only [F55_L0, idx_some h, slI_take hk, f80_val (l.take k) e (by simp; omega), Option.bind_some]
    cases (l.take k).any (fun y => e == y) <;> simp [hk, going]
  have c : ((decide ((l.length : Int) < 1)) || (decide ((l.length : Int) > 12))) = false := by simp; omega
  rw [← dbl_nodup]
  unfold F55
  rw [c, h2]
  cases dbl l <;> simp [found]
theorem hl_nodup (l : List Int) (h : l.Nodup) : (hl l).Nodup := by
  rw [hl_eq]
  refine List.pairwise_map.2 ?_
  refine (List.Pairwise.filter (pH l) List.pairwise_lt_range).imp_of_mem ?_
  intro a b ha hb hab heq
  have han : a < l.length := by have := (List.mem_filter.1 ha).1; simpa using this
  have hbn : b < l.length := by have := (List.mem_filter.1 hb).1; simpa using this
  unfold qH at heq
  rw [rot han, rot hbn] at heq
  have hg : ∀ i (hi : i < l.length), l.getD i 0 = l[i] := fun i hi => by simp [List.getD_eq_getElem?_getD, hi]
  have hP := List.pairwise_iff_getElem.1 h
  by_cases ha0 : a = 0
  · rw [if_pos ha0, if_neg (by omega), hg _ (by omega), hg _ (by omega)] at heq
    exact hP (b - 1) (l.length - 1) (by omega) (by omega) (by omega) heq.symm
  · rw [if_neg ha0, if_neg (by omega), hg _ (by omega), hg _ (by omega)] at heq
    exact hP (a - 1) (b - 1) (by omega) (by omega) (by omega) heq
theorem hl_short (l : List Int) (h3 : 3 ≤ l.length) : (hl l).length < l.length := by
  rw [hl_eq, List.length_map]
  have hle := List.length_filter_le (pH l) (List.range l.length)
  rw [List.length_range] at hle
  rcases Nat.lt_or_ge ((List.range l.length).filter (pH l)).length l.length with q | q
  · exact q
  · exfalso
    have hall : ∀ k, k < l.length → pH l k = true := by
      have heq : ((List.range l.length).filter (pH l)).length = (List.range l.length).length := by rw [List.length_range]; omega
      have := List.length_filter_eq_length_iff.1 heq
      intro k hk; exact this k (by simpa using hk)
    have h0 := hall 0 (by omega)
    have h1 := hall 1 (by omega)
    unfold pH qH at h0 h1
    simp only [Bool.and_eq_true, decide_eq_true_eq] at h0 h1
    rw [rot (show 0 < l.length by omega), if_pos rfl] at h0
    have e1 : (1 + l.length - 1) % l.length = 0 := by rw [rot (show 1 < l.length by omega)]; rfl
    have e2 : (1 + l.length - 2) % l.length = l.length - 1 := by rw [show 1 + l.length - 2 = l.length - 1 by omega]; exact Nat.mod_eq_of_lt (by omega)
    rw [e1, e2] at h1
    omega
theorem step (l : List Int) (h2 : 2 ≤ l.length) (h12 : l.length ≤ 12) (hn : l.Nodup) : ∃ r, F30 l = some (r, 0) ∧ F32 l = some r ∧ r.length < l.length ∧ r.Nodup := by
  have hc := (check_nodup l (by omega) h12 (by omega)).2 hn
  rcases Nat.lt_or_ge l.length 3 with h | h
  · obtain ⟨r, e1, e2, _⟩ := halves_same l (by omega) h12 hc
    have hr : ∃ x, r = [x] := by
      unfold F30 at e1
      rw [hc] at e1
      have : decide ((l.length : Int) < 3) = true := by simp; omega
      simp only [Option.bind_some, this] at e1
      cases q : F56 l with
      | none => rw [q] at e1; simp at e1
      | some x => rw [q] at e1; simp at e1; exact ⟨x, e1.symm⟩
    obtain ⟨x, rfl⟩ := hr
    exact ⟨[x], e1, e2, by simp; omega, by simp⟩
  · obtain ⟨e1, e2, _⟩ := half_val l h h12
    have : ¬ (l.length : Int) < 3 := by omega
    refine ⟨hl l, ?_, e2, hl_short l h, hl_nodup l hn⟩
    unfold F30
    rw [hc]
    simp [this, e1]
theorem loops (N : Nat) : ∀ (y : List Int) (k : Int), y.length ≤ N → y.length ≤ 12 → y.Nodup → ∃ c, whileM F33_L0 (y, k) = some (.brk c) ∧ whileM F10_L0 (y, k) = some (.brk c) := by
  induction N with
  | zero =>
    intro y k hN _ _
    have : decide ((y.length : Int) > 1) = false := by simp; omega
    exact ⟨k, whileM_brk (by simp only [F33_L0, this, cond_false]), whileM_brk (by simp only [F10_L0, this, cond_false])⟩
  | succ N ih =>
    intro y k hN h12 hn
    rcases Nat.lt_or_ge y.length 2 with h | h
    · have : decide ((y.length : Int) > 1) = false := by simp; omega
      exact ⟨k, whileM_brk (by simp only [F33_L0, this, cond_false]), whileM_brk (by simp only [F10_L0, this, cond_false])⟩
    · obtain ⟨r, e1, e2, e3, e4⟩ := step y h h12 hn
      have hd : decide ((y.length : Int) > 1) = true := by simp; omega
      have n33 : F33_L0 (y, k) = some (.nxt (r, w64 (k + 1))) := by simp only [F33_L0, hd, e1, Option.bind_some, cond_true]
      have n10 : F10_L0 (y, k) = some (.nxt (r, w64 (k + 1))) := by simp only [F10_L0, hd, e2, Option.bind_some, cond_true]
      rw [whileM_nxt n33, whileM_nxt n10]
      exact ih r _ (by omega) (by omega) e4
theorem law_RingHalves (a0 : List Int) (h : a0.length ≤ 9223372036854775807) (_ : ∀ x ∈ a0, i64 x) : F10 a0 = some true := by
  obtain ⟨r, h1, h2, h3⟩ := ringCheck_same a0 h
  unfold F10 F33
  rw [h1, h2]
  by_cases c : r = 0
  · subst c
    obtain ⟨q1, q2⟩ := h3 rfl
    have hn := (check_nodup a0 q1 q2 h).1 h1
    obtain ⟨c, l1, l2⟩ := loops a0.length a0 0 (Nat.le_refl _) q2 hn
    simp [l1, l2]
  · have : (r != 0) = true := by simpa using c
    simp [this]
end Go.Proofs.Ytdjmlbjkendobaa
