/-
  The plain laws of RunAheads and RunAparts.
-/
import Derived.Test.YtmfidlalejdikaaPAhead
import Derived.Test.YtmfidlalejdikaaBk6
namespace Go.Proofs.Ytmfidlalejdikaa
open Go Go.Bk
set_option linter.unusedVariables false
set_option linter.unusedSimpArgs false

theorem rng_same (i j n : Int) : ((decide (mn i j < 0)) || (decide (mx i j ≥ n))) = ((((decide (i < 0)) || (decide (i ≥ n))) || (decide (j < 0))) || (decide (j ≥ n))) := by
  have h1 : mn i j ≤ i ∧ mn i j ≤ j ∧ (mn i j = i ∨ mn i j = j) := by unfold mn; split <;> omega
  have h2 : i ≤ mx i j ∧ j ≤ mx i j ∧ (mx i j = i ∨ mx i j = j) := by unfold mx; split <;> omega
  rw [Bool.eq_iff_iff]
  simp only [Bool.or_eq_true, decide_eq_true_eq]
  generalize mn i j = u at *
  generalize mx i j = v at *
  omega
theorem bit_eq (w : W32) (k : Nat) : (((w >>> k) &&& 1#32) == 1#32) = w.getLsbD k := by rw [and_one]; cases w.getLsbD k <;> rfl
theorem law_RunAheads (a0 : Int) (_ : i64 a0) (a1 : List Ev) (h : a1.length ≤ 9223372036854775807) (_ : ∀ x ∈ a1, i64 x.1 ∧ i64 x.2.1 ∧ i64 x.2.2) (a2 : Int) (_ : i64 a2) (a3 : Int) (_ : i64 a3) : F4 a0 a1 a2 a3 = some true := by
  obtain ⟨r, h1, h2⟩ := runCheck_same a0 a1
  unfold F4 F17
  rw [h1, h2, rng_same]
  by_cases c : r = 0
  · subst c
    have g := good_of h2
    obtain ⟨past, e1, e2, e3⟩ := f40_val g
    cases d : ((((decide (a2 < 0)) || (decide (a2 ≥ (a1.length : Int)))) || (decide (a3 < 0))) || (decide (a3 ≥ (a1.length : Int)))) with
    | true => simp [d]
    | false =>
      have d' := d
      simp only [Bool.or_eq_false_iff, decide_eq_false_iff_not] at d'
      obtain ⟨i, rfl⟩ : ∃ n : Nat, a2 = n := ⟨a2.toNat, by omega⟩
      obtain ⟨j, rfl⟩ : ∃ n : Nat, a3 = n := ⟨a3.toNat, by omega⟩
      have hi : i < a1.length := by omega
      have hj : j < a1.length := by omega
      have e4 : idx past (j : Int) = some (wd past j) := idx_some (get_wd (by omega))
      have e5 := mat_at hi hj (fun b => some (T a1 i j == b))
      simp only [e1, e4, f18_val g.len, shc_nat, bit_eq, e3 j hj, d, Option.bind_some, cond_false, cond_true, bne_self_eq_false, beq_self_eq_true, Bool.and_false, Bool.false_eq_true, e5]
  · have c1 : (r != 0) = true := by simpa using c
    have c2 : (r == 0) = false := by simpa using c
    simp [c1, c2, c]

theorem i64_w64 (x : Int) : i64 (w64 x) := by
  unfold i64 w64 IntKind.wrap
  simp [IntKind.bits, IntKind.signed]
  omega
theorem w64_i64 {x : Int} (h : i64 x) : w64 x = x := w64_of h.1 h.2
def inA (l : List Ev) (j : Nat) (t : Int) : Int := (List.range j).foldl (fun t k => cond (T l k j) t (w64 (t + 1))) t
theorem f19_l1 {l : List Ev} {w : W32} {j : Nat} (hj : j ≤ 30) (hw : ∀ i, w.getLsbD i = T l i j) (t : Int) (ht : i64 t) : whileM (F19_L1 (j : Int) w) (t, 0) = some (.brk (inA l j t)) ∧ i64 (inA l j t) :=
  while_foldI (fun k t => (t, (k : Int))) j (fun k t => cond (T l k j) t (w64 (t + 1))) id (fun _ t => i64 t) t ht
    (fun k t hk hI => by
      constructor
      · have hkj : decide ((k : Int) < (j : Int)) = true := by simpa using hk
        simp only [F19_L1, shc_nat, and_one, hw, Option.bind_some, hkj, cond_true, w64_succ hk (by omega)]
        cases T l k j with
        | true => simp [w64_i64 hI]
        | false => simp
      · cases T l k j with
        | true => exact hI
        | false => exact i64_w64 _)
    (fun t _ => by simp [F19_L1])
theorem f5_l1 {l : List Ev} {j : Nat} (hl : l.length ≤ 30) (hj : j < l.length) (t : Int) (ht : i64 t) : whileM (F5_L1 (mat l.length (T l)) (j : Int)) (t, 0) = some (.brk (inA l j t)) :=
  while_foldN (fun k t => (t, (k : Int))) j (fun k t => cond (T l k j) t (w64 (t + 1))) id t
    (fun k t hk => by
      have hkj : decide ((k : Int) < (j : Int)) = true := by simpa using hk
      have q1 : idx (mat l.length (T l)) (j : Int) = some (rowf l.length (T l j)) := rowf_idx hj
      have q2 : idx (rowf l.length (T l j)) (k : Int) = some (T l j k) := rowf_idx (by omega)
      have q3 : idx (mat l.length (T l)) (k : Int) = some (rowf l.length (T l k)) := rowf_idx (by omega)
      have q4 : idx (rowf l.length (T l k)) (j : Int) = some (T l k j) := rowf_idx hj
      have q5 : T l j k = false := by
        cases c : T l j k with
        | false => rfl
        | true => have := T_lt c; omega
      simp only [F5_L1, q1, q2, q3, q4, q5, Option.bind_some, hkj, cond_true, w64_succ hk (by omega), Bool.not_false]
      cases T l k j <;> simp)
    (fun t => by simp [F5_L1])
theorem law_RunAparts (a0 : Int) (_ : i64 a0) (a1 : List Ev) (h : a1.length ≤ 9223372036854775807) (_ : ∀ x ∈ a1, i64 x.1 ∧ i64 x.2.1 ∧ i64 x.2.2) : F5 a0 a1 = some true := by
  obtain ⟨r, h1, h2⟩ := runCheck_same a0 a1
  unfold F5 F19
  rw [h1, h2]
  by_cases c : r = 0
  · subst c
    have g := good_of h2
    have hl := g.len
    obtain ⟨past, e1, e2, e3⟩ := f40_val g
    have w1 : whileM (F19_L0 past) (0, 0) = some (.brk ((List.range a1.length).foldl (fun t j => inA a1 j t) 0)) :=
      (while_foldI (fun k t => (t, (k : Int))) a1.length (fun j t => inA a1 j t) id (fun _ t => i64 t) 0 (by unfold i64; omega)
        (fun k t hk hI => by
          have hx := f19_l1 (l := a1) (w := wd past k) (by omega) (e3 k hk) t hI
          have hkj : decide ((k : Int) < (past.length : Int)) = true := by rw [decide_eq_true_eq]; omega
          exact ⟨by simp only [F19_L0, idx_some (get_wd (show k < past.length by omega)), hx.1, Option.bind_some, Ctl.on, hkj, cond_true, w64_succ hk (by omega)], hx.2⟩)
        (fun t _ => by simp [F19_L0, e2])).1
    have w2 : whileM (F5_L0 a1 (mat a1.length (T a1))) (0, 0) = some (.brk ((List.range a1.length).foldl (fun t j => inA a1 j t) 0)) :=
      (while_foldI (fun k t => (t, (k : Int))) a1.length (fun j t => inA a1 j t) id (fun _ t => i64 t) 0 (by unfold i64; omega)
        (fun k t hk hI => by
          have hx := f5_l1 hl hk t hI
          have hi := (f19_l1 (l := a1) (w := wd past k) (by omega) (e3 k hk) t hI).2
          have hkj : decide ((k : Int) < (a1.length : Int)) = true := by rw [decide_eq_true_eq]; omega
          exact ⟨by simp only [F5_L0, hx, Option.bind_some, Ctl.on, hkj, cond_true, w64_succ hk (by omega)], hi⟩)
        (fun t _ => by simp [F5_L0])).1
    simp [e1, w1, w2, f18_val hl, Ctl.on]
  · have c1 : (r != 0) = true := by simpa using c
    have c2 : (r == 0) = false := by simpa using c
    simp [c1, c2, c]
end Go.Proofs.Ytmfidlalejdikaa
