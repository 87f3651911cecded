/-
  The plain law of LineChecks: the models of line.Check and of the document's answer say the same.
-/
import Derived.Test.YtmlfflaelbofmaaAM
import Derived.Test.YtmlfflaelbofmaaPl
import Derived.Test.YtmlfflaelbofmaaBk6
namespace Go.Proofs.Ytmlfflaelbofmaa
open Go Go.Bk
set_option linter.unusedVariables false
set_option linter.unusedSimpArgs false

abbrev LOp := Int × Int × Int × Bool × Int
/-- Two deeds of one client at once. -/
def clash (a b : LOp) : Bool := (a.1 == b.1) && decide (a.2.2.1 > b.2.1) && decide (b.2.2.1 > a.2.1)

theorem f15_l0 (l : List LOp) (hl : l.length ≤ 9223372036854775807) : whileM (F15_L0 l) 0 = some (found () (scan (fun _ (e : LOp) => if e.2.2.1 ≤ e.2.1 then some 4 else none) l 0)) := by
  refine while_scan hl _ (fun k e h => ?_) (by simp [F15_L0])
  have hk := lt_of_get h
  by_cases c : e.2.2.1 ≤ e.2.1 <;> simp [F15_L0, idx_some h, hk, c, going]
theorem f16_l0 (l : List LOp) (hl : l.length ≤ 9223372036854775807) : whileM (F16_L0 l) 0 = some (found () (scan (fun _ (e : LOp) => if e.2.2.1 ≤ e.2.1 then some 4 else none) l 0)) := by
  refine while_scan hl _ (fun k e h => ?_) (by simp [F16_L0])
  have hk := lt_of_get h
  by_cases c : e.2.2.1 ≤ e.2.1 <;> simp [F16_L0, idx_some h, hk, c, going]
theorem f15_l2 (a : LOp) (l : List LOp) (hl : l.length ≤ 9223372036854775807) : whileM (F15_L2 a l) 0 = some (found () (scan (fun _ (b : LOp) => if clash a b = true then some 3 else none) l 0)) := by
  refine while_scan hl _ (fun k e h => ?_) (by simp [F15_L2])
  have hk := lt_of_get h
  have e1 : (((a.1 == e.1) && (decide (a.2.2.1 > e.2.1))) && (decide (e.2.2.1 > a.2.1))) = clash a e := rfl
  cases c : clash a e <;> simp only [F15_L2, idx_some h, e1, c, going, Option.bind_some, cond_true, cond_false] <;> simp [hk]
theorem f16_l2 (l : List LOp) (i : Int) (a : LOp) (hl : l.length ≤ 9223372036854775807) : whileM (F16_L2 l i a) 0 = some (found () (scan (fun k (b : LOp) => if i ≠ (k : Int) ∧ clash a b = true then some 3 else none) l 0)) := by
  refine while_scan hl _ (fun k e h => ?_) (by simp [F16_L2])
  have hk := lt_of_get h
  have e1 : ((((i != (k : Int)) && (a.1 == e.1)) && (!((decide (a.2.2.1 ≤ e.2.1)) || (decide (e.2.2.1 ≤ a.2.1)))))) = (decide (i ≠ (k : Int)) && clash a e) := by
    rw [Bool.eq_iff_iff]; simp [clash, and_assoc]
  by_cases c1 : i ≠ (k : Int) <;> cases c : clash a e <;> simp only [F16_L2, idx_some h, e1, c, c1, going, Option.bind_some] <;> simp [hk, c1]

/-- The answer of the second loop: both. -/
def three (o : Option Int) : Option (Ctl Int Unit Int) := some (found () o)
theorem f15_l1 (l : List LOp) (hl : l.length ≤ 9223372036854775807) : whileM (F15_L1 l) 0 = some (found () (scan (fun k (a : LOp) => scan (fun _ (b : LOp) => if clash a b = true then some 3 else none) (l.take k) 0) l 0)) := by
  refine while_scan hl _ (fun k e h => ?_) (by simp [F15_L1])
  have hk := lt_of_get h
  have hs : slI l 0 (k : Int) = some (l.take k) := by unfold slI; rw [if_pos ⟨by omega, by omega, by omega⟩]; simp
  have hb := f15_l2 e (l.take k) (by simp; omega)
  cases c : scan (fun _ (b : LOp) => if clash e b = true then some (3 : Int) else none) (l.take k) 0 <;> rw [c] at hb <;> simp [F15_L1, idx_some h, hk, hs, hb, going, found]
theorem f16_l1 (l : List LOp) (hl : l.length ≤ 9223372036854775807) : whileM (F16_L1 l) 0 = some (found () (scan (fun k (a : LOp) => scan (fun j (b : LOp) => if (k : Int) ≠ (j : Int) ∧ clash a b = true then some 3 else none) l 0) l 0)) := by
  refine while_scan hl _ (fun k e h => ?_) (by simp [F16_L1])
  have hk := lt_of_get h
  have hb := f16_l2 l k e hl
  cases c : scan (fun j (b : LOp) => if (k : Int) ≠ (j : Int) ∧ clash e b = true then some (3 : Int) else none) l 0 <;> rw [c] at hb <;> simp [F16_L1, idx_some h, hk, hb, going, found]

theorem clash_symm (a b : LOp) : clash a b = clash b a := by
  rw [Bool.eq_iff_iff]; simp [clash]; omega
theorem scans_same (l : List LOp) : scan (fun k (a : LOp) => scan (fun _ (b : LOp) => if clash a b = true then some (3 : Int) else none) (l.take k) 0) l 0 =
    scan (fun k (a : LOp) => scan (fun j (b : LOp) => if (k : Int) ≠ (j : Int) ∧ clash a b = true then some (3 : Int) else none) l 0) l 0 := by
  have h3 : ∀ (p : Prop) [Decidable p] (x : Int), (if p then some (3 : Int) else none) = some x → x = 3 := by intro p _ x h; split at h <;> simp_all
  have in1 : ∀ (k : Nat) (a : LOp) x, scan (fun _ (b : LOp) => if clash a b = true then some (3 : Int) else none) (l.take k) 0 = some x → x = 3 := fun k a x h => by
    obtain ⟨i, e, hi, he⟩ := scan_val h; exact h3 _ _ he
  have in2 : ∀ (k : Nat) (a : LOp) x, scan (fun j (b : LOp) => if (k : Int) ≠ (j : Int) ∧ clash a b = true then some (3 : Int) else none) l 0 = some x → x = 3 := fun k a x h => by
    obtain ⟨i, e, hi, he⟩ := scan_val h; exact h3 _ _ he
  refine scan_same in1 in2 ?_
  have some1 : ∀ (k : Nat) (a : LOp), scan (fun _ (b : LOp) => if clash a b = true then some (3 : Int) else none) (l.take k) 0 = some 3 ↔ ∃ j b, l[j]? = some b ∧ j < k ∧ clash a b = true := fun k a => by
    constructor
    · intro h
      obtain ⟨i, e, hi, he⟩ := scan_val h
      rw [List.getElem?_take] at hi
      split at hi
      · rename_i hik; exact ⟨i, e, hi, hik, by cases c : clash a e with | true => rfl | false => rw [c] at he; simp at he⟩
      · cases hi
    · rintro ⟨j, b, hj, hjk, hc⟩
      cases x : scan (fun _ (b : LOp) => if clash a b = true then some (3 : Int) else none) (l.take k) 0 with
      | some r => rw [in1 k a r x]
      | none => have := scan_none.1 x j b (by rw [List.getElem?_take, if_pos hjk, hj]); simp [hc] at this
  have some2 : ∀ (k : Nat) (a : LOp), scan (fun j (b : LOp) => if (k : Int) ≠ (j : Int) ∧ clash a b = true then some (3 : Int) else none) l 0 = some 3 ↔ ∃ j b, l[j]? = some b ∧ k ≠ j ∧ clash a b = true := fun k a => by
    constructor
    · intro h
      obtain ⟨i, e, hi, he⟩ := scan_val h
      by_cases c : (k : Int) ≠ ((0 + i : Nat) : Int) ∧ clash a e = true
      · exact ⟨i, e, hi, by omega, c.2⟩
      · rw [if_neg c] at he; cases he
    · rintro ⟨j, b, hj, hjk, hc⟩
      cases x : scan (fun j (b : LOp) => if (k : Int) ≠ (j : Int) ∧ clash a b = true then some (3 : Int) else none) l 0 with
      | some r => rw [in2 k a r x]
      | none =>
        have := scan_none.1 x j b hj
        rw [if_pos ⟨by omega, hc⟩] at this
        cases this
  simp only [Nat.zero_add, some1, some2]
  constructor
  · rintro ⟨i, e, hi, j, b, hj, hji, hc⟩; exact ⟨i, e, hi, j, b, hj, by omega, hc⟩
  · rintro ⟨i, e, hi, j, b, hj, hji, hc⟩
    rcases Nat.lt_or_gt_of_ne hji with h | h
    · exact ⟨j, b, hj, i, e, hi, h, by rw [clash_symm]; exact hc⟩
    · exact ⟨i, e, hi, j, b, hj, h, hc⟩

theorem check_same (l : List LOp) (hl : l.length ≤ 9223372036854775807) : F15 l = F16 l ∧ (F15 l).isSome := by
  simp only [F15, F16, f15_l0 l hl, f16_l0 l hl, f15_l1 l hl, f16_l1 l hl, scans_same l, Option.bind_some]
  cases scan (fun _ (e : LOp) => if e.2.2.1 ≤ e.2.1 then some (4 : Int) else none) l 0 <;>
    cases scan (fun k (a : LOp) => scan (fun j (b : LOp) => if (k : Int) ≠ (j : Int) ∧ clash a b = true then some (3 : Int) else none) l 0) l 0 <;>
    by_cases c : (l.length : Int) > 8 <;> simp [found, c]

theorem law_LineChecks (a0 : List LOp) (h : a0.length ≤ 9223372036854775807) (_ : ∀ x ∈ a0, i64 x.1 ∧ i64 x.2.1 ∧ i64 x.2.2.1 ∧ True ∧ i64 x.2.2.2.2) : F3 a0 = some true := by
  obtain ⟨e, s⟩ := check_same a0 h
  obtain ⟨r, hr⟩ := Option.isSome_iff_exists.1 s
  simp [F3, ← e, hr]
end Go.Proofs.Ytmlfflaelbofmaa
