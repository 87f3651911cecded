/-
  The plain law of RingHalf.
-/
import Derived.Test.YtdjmlbjkendobaaAM
import Derived.Test.YtdjmlbjkendobaaPw
import Derived.Test.YtdjmlbjkendobaaBk6
namespace Go.Proofs.Ytdjmlbjkendobaa
open Go Go.Bk
set_option linter.unusedVariables false
set_option linter.unusedSimpArgs false

theorem f80_val (l : List Int) (x : Int) (hl : l.length ≤ 9223372036854775807) : F80 l x = some (l.any (fun y => x == y)) := by
  have hw : whileM (F91_L0 l x) 0 = some (found () (scan (fun k (e : Int) => if (x == e) = true then some (k : Int) else none) l 0)) := by
    refine while_scan hl _ (fun k e h => ?_) (by simp [F91_L0])
    have hk := lt_of_get h
    cases c : (x == e) <;> simp only [F91_L0, idx_some h, c, going, Option.bind_some] <;> simp [hk]
  unfold F80 F91
  rw [hw]
  cases y : scan (fun k (e : Int) => if (x == e) = true then some (k : Int) else none) l 0 with
  | none =>
    have : l.any (fun y => x == y) = false := by
      rw [List.any_eq_false]
      intro e he
      obtain ⟨i, hi⟩ := List.getElem?_of_mem he
      have := scan_none.1 y i e hi
      intro hc; rw [if_pos hc] at this; cases this
    rw [this]; simp [found]
  | some r =>
    obtain ⟨i, e, hi, he⟩ := scan_val y
    have hc : (x == e) = true := by
      cases c : (x == e) with
      | true => rfl
      | false => rw [c] at he; simp at he
    rw [if_pos hc] at he
    simp at he
    subst he
    have : l.any (fun y => x == y) = true := List.any_eq_true.2 ⟨e, List.mem_of_getElem? hi, hc⟩
    rw [this]; simp [found]
def dbl (l : List Int) : Option Unit := scan (fun k e => if (l.take k).any (fun y => e == y) = true then some () else none) l 0
theorem ringCheck_same (l : List Int) (hl : l.length ≤ 9223372036854775807) : ∃ r, F55 l = some r ∧ F31 l = some r ∧ (r = 0 → 1 ≤ l.length ∧ l.length ≤ 12) := by
  have h1 : whileM (F55_L0 l) 0 = some (found () ((dbl l).map (fun _ => 3))) := by
    unfold dbl
    rw [← scan_const]
    refine while_scan hl _ (fun k e h => ?_) (by simp [F55_L0])
    have hk := lt_of_get h
    simp only [F55_L0, idx_some h, slI_take hk, f80_val (l.take k) e (by simp; omega), Option.bind_some]
    cases (l.take k).any (fun y => e == y) <;> simp [hk, going]
  have h2 : whileM (F31_L0 l) 0 = some (found () ((dbl l).map (fun _ => 3))) := by
    unfold dbl
    rw [← scan_const]
    refine while_scan hl _ (fun k e h => ?_) (by simp [F31_L0])
    have hk := lt_of_get h
    have h1 : whileM (F31_L1 l (k : Int)) 0 = some (found () (cond ((l.take k).any (fun y => e == y)) (some 3) none)) := by
      rw [← scan_any (k := 0)]
      have hlen : (l.take k).length = k := by simp; omega
      refine while_scan (by simp; omega) _ (fun j b hj => ?_) (by rw [hlen]; simp [F31_L1])
      have hjk : j < k := by have := lt_of_get hj; omega
      have hjl : l[j]? = some b := by rw [List.getElem?_take, if_pos hjk] at hj; exact hj
      cases c : (e == b) <;> simp only [F31_L1, idx_some h, idx_some hjl, c, going, Option.bind_some] <;> simp [hjk]
    simp only [F31_L0, h1, Option.bind_some]
    cases (l.take k).any (fun y => e == y) <;> simp [hk, going, found]
  unfold F55 F31
  rw [h1, h2]
  cases c : ((decide ((l.length : Int) < 1)) || (decide ((l.length : Int) > 12))) with
  | true => exact ⟨1, rfl, rfl, by simp⟩
  | false =>
    simp only [Bool.or_eq_false_iff, decide_eq_false_iff_not] at c
    cases t : dbl l with
    | some u => exact ⟨3, rfl, rfl, by simp⟩
    | none => exact ⟨0, rfl, rfl, fun _ => ⟨by omega, by omega⟩⟩

theorem modidx (l : List Int) (k c : Nat) (hk : k < l.length) (h3 : 3 ≤ l.length) (h12 : l.length ≤ 12) (hc : c ≤ 2) : idx l ((w64 ((w64 ((k : Int) + (l.length : Int))) - (c : Int))).tmod (l.length : Int)) = some (l.getD ((k + l.length - c) % l.length) 0) := by
  have e1 : w64 ((k : Int) + (l.length : Int)) = ((k + l.length : Nat) : Int) := by rw [w64_of (by omega) (by omega)]; push_cast; rfl
  have e2 : w64 (((k + l.length : Nat) : Int) - (c : Int)) = ((k + l.length - c : Nat) : Int) := by rw [w64_of (by omega) (by omega)]; omega
  have e3 : ((k + l.length - c : Nat) : Int).tmod (l.length : Int) = (((k + l.length - c) % l.length : Nat) : Int) := rfl
  rw [e1, e2, e3, idx_nat]
  have : (k + l.length - c) % l.length < l.length := Nat.mod_lt _ (by omega)
  simp [List.getD_eq_getElem?_getD, this]
def stepH (l : List Int) (k : Nat) (t : List Int) : List Int :=
  cond (decide (l.getD ((k + l.length - 1) % l.length) 0 > l.getD ((k + l.length - 2) % l.length) 0) && decide (l.getD ((k + l.length - 1) % l.length) 0 > l.getD k 0)) (t ++ [l.getD ((k + l.length - 1) % l.length) 0]) t
theorem appl_one {t : List Int} {x : Int} (h : t.length ≤ 12) : appl 8 t [x] = some (t ++ [x]) := by unfold appl; rw [if_pos]; simp; omega
theorem stepH_len (l : List Int) (k : Nat) (t : List Int) (h : t.length ≤ k) : (stepH l k t).length ≤ k + 1 := by
  unfold stepH
  cases decide (l.getD ((k + l.length - 1) % l.length) 0 > l.getD ((k + l.length - 2) % l.length) 0) && decide (l.getD ((k + l.length - 1) % l.length) 0 > l.getD k 0) <;> simp <;> omega
def hl (l : List Int) : List Int := (List.range l.length).foldl (fun t k => stepH l k t) []
theorem half_val (l : List Int) (h3 : 3 ≤ l.length) (h12 : l.length ≤ 12) : F57 l = some (hl l) ∧ F32 l = some (hl l) ∧ (hl l).length ≤ 12 := by
  have hm1 : ∀ k : Nat, k < l.length → idx l ((w64 ((w64 ((k : Int) + (l.length : Int))) - 1)).tmod (l.length : Int)) = some (l.getD ((k + l.length - 1) % l.length) 0) := fun k hk => modidx l k 1 hk h3 h12 (by omega)
  have hm2 : ∀ k : Nat, k < l.length → idx l ((w64 ((w64 ((k : Int) + (l.length : Int))) - 2)).tmod (l.length : Int)) = some (l.getD ((k + l.length - 2) % l.length) 0) := fun k hk => modidx l k 2 hk h3 h12 (by omega)
  have hnz : nz (l.length : Int) = some () := by unfold nz; rw [if_neg (by omega)]
  have hg : ∀ k, k < l.length → idx l (k : Int) = some (l.getD k 0) := fun k hk => by rw [idx_nat]; simp [List.getD_eq_getElem?_getD, hk]
  have e57 := while_foldI (body := F57_L0 l) (fun k t => (t, (k : Int))) l.length (stepH l) id (fun k t => t.length ≤ k) [] (by simp)
    (fun k t hk hI => by
      refine ⟨?_, stepH_len l k t hI⟩
      have h1 := hm1 k hk
      have h2 := hm2 k hk
      simp only [F57_L0, hnz, h1, h2, hg k hk, Option.bind_some, w64_succ hk (by omega), appl_one (show t.length ≤ 12 by omega)]
      unfold stepH
      cases decide (l.getD ((k + l.length - 1) % l.length) 0 > l.getD ((k + l.length - 2) % l.length) 0) <;> cases decide (l.getD ((k + l.length - 1) % l.length) 0 > l.getD k 0) <;> simp [hk])
    (fun t _ => by simp [F57_L0])
  have e32 := while_foldI (body := F32_L0 l) (fun k t => (t, (k : Int))) l.length (stepH l) id (fun k t => t.length ≤ k) [] (by simp)
    (fun k t hk hI => by
      refine ⟨?_, stepH_len l k t hI⟩
      have h1 := hm1 k hk
      have h2 := hm2 k hk
      simp only [F32_L0, hnz, h1, h2, hg k hk, Option.bind_some, w64_succ hk (by omega), appl_one (show t.length ≤ 12 by omega)]
      unfold stepH
      cases decide (l.getD ((k + l.length - 1) % l.length) 0 > l.getD ((k + l.length - 2) % l.length) 0) <;> cases decide (l.getD ((k + l.length - 1) % l.length) 0 > l.getD k 0) <;> simp [hk])
    (fun t _ => by simp [F32_L0])
  unfold F57 F32
  have c1 : ((l.length : Int) == 1) = false := by simp; omega
  have c2 : ((l.length : Int) == 2) = false := by simp; omega
  rw [c1, c2]
  simp only [cond_false]
  have e57' : whileM (F57_L0 l) ([], 0) = _ := e57.1
  have e32' : whileM (F32_L0 l) ([], 0) = _ := e32.1
  rw [e57', e32']
  exact ⟨rfl, rfl, Nat.le_trans e57.2 h12⟩
theorem half_same (l : List Int) (h3 : 3 ≤ l.length) (h12 : l.length ≤ 12) : ∃ r, F57 l = some r ∧ F32 l = some r ∧ r.length ≤ 12 := ⟨_, half_val l h3 h12⟩
theorem ints_self (l : List Int) (hl : l.length ≤ 9223372036854775807) : F29 l l = some true := by
  have h : whileM (F29_L0 l l) 0 = some (found () (scan (fun _ (_ : Int) => (none : Option Bool)) l 0)) := by
    refine while_scan hl _ (fun k e h => ?_) (by simp [F29_L0])
    have hk := lt_of_get h
    simp [F29_L0, idx_some h, hk, going]
  have hn : scan (fun _ (_ : Int) => (none : Option Bool)) l 0 = none := scan_none.2 fun _ _ _ => rfl
  unfold F29
  rw [h, hn]
  simp [found]
theorem halves_same (l : List Int) (h1 : 1 ≤ l.length) (h12 : l.length ≤ 12) (hc : F55 l = some 0) : ∃ r, F30 l = some (r, 0) ∧ F32 l = some r ∧ r.length ≤ 12 := by
  unfold F30
  rw [hc]
  rcases Nat.lt_or_ge l.length 3 with h | h
  · match l, h1, h with
    | [x], _, _ =>
      have hw : whileM (F56_L0 [x]) (x, 1) = some (.brk x) := whileM_brk (by simp [F56_L0])
      refine ⟨[x], ?_, ?_, by simp⟩
      · simp [F56, idx, hw]
      · simp [F32, idx]
    | [x, y], _, _ =>
      have hw : whileM (F56_L0 [x, y]) (x, 1) = some (.brk (mx x y)) := by
        rw [whileM_nxt (s' := (mx x y, 2)) (by simp [F56_L0, idx]; exact w64_of (by decide) (by decide))]
        exact whileM_brk (by simp [F56_L0])
      refine ⟨[mx x y], ?_, ?_, by simp⟩
      · simp [F56, idx, hw]
      · unfold mx
        rcases Int.lt_or_le y x with q | q
        · have : ¬ y > x := by omega
          simp [F32, idx, q, this]
        · rcases Int.lt_or_le x y with q2 | q2
          · have : ¬ x > y := by omega
            simp [F32, idx, q2, this]
          · have : x = y := by omega
            subst this
            simp [F32, idx]
  · obtain ⟨r, e1, e2, e3⟩ := half_same l h h12
    have : ¬ (l.length : Int) < 3 := by omega
    exact ⟨r, by simp [this, e1], e2, e3⟩

theorem law_RingHalf (a0 : List Int) (h : a0.length ≤ 9223372036854775807) (_ : ∀ x ∈ a0, i64 x) : F9 a0 = some true := by
  obtain ⟨r, h1, h2, h3⟩ := ringCheck_same a0 h
  unfold F9
  rw [h2]
  by_cases c : r = 0
  · subst c
    obtain ⟨q1, q2⟩ := h3 rfl
    obtain ⟨s, e1, e2, e3⟩ := halves_same a0 q1 q2 h1
    rw [e1, e2]
    simp [ints_self s (by omega)]
  · have : (r != 0) = true := by simpa using c
    have e1 : F30 a0 = some ([], r) := by unfold F30; rw [h1]; simp [this]
    rw [e1]
    simp [this]
end Go.Proofs.Ytdjmlbjkendobaa
