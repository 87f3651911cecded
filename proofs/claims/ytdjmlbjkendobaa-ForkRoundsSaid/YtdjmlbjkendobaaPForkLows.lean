/-
  The plain law of ForkLows.
-/
import Derived.Test.YtdjmlbjkendobaaAM
import Derived.Test.YtdjmlbjkendobaaPw
import Derived.Test.YtdjmlbjkendobaaBk6
namespace Go.Proofs.Ytdjmlbjkendobaa
open Go Go.Bk
set_option linter.unusedVariables false
set_option linter.unusedSimpArgs false

abbrev Lk := Int × Int
def offL (n : Int) (e : Lk) : Bool := (((((decide (e.1 < 0)) || (decide (e.1 ≥ n))) || (decide (e.2 < 0))) || (decide (e.2 ≥ n))) || (e.1 == e.2))
theorem offL_mn (n : Int) (e : Lk) : (((decide ((mn e.1 e.2) < 0)) || (decide ((mx e.1 e.2) ≥ n))) || (e.1 == e.2)) = offL n e := by
  have h1 : mn e.1 e.2 ≤ e.1 ∧ mn e.1 e.2 ≤ e.2 ∧ (mn e.1 e.2 = e.1 ∨ mn e.1 e.2 = e.2) := by unfold mn; split <;> omega
  have h2 : e.1 ≤ mx e.1 e.2 ∧ e.2 ≤ mx e.1 e.2 ∧ (mx e.1 e.2 = e.1 ∨ mx e.1 e.2 = e.2) := by unfold mx; split <;> omega
  rw [Bool.eq_iff_iff]
  simp only [offL, Bool.or_eq_true, decide_eq_true_eq, beq_iff_eq]
  generalize mn e.1 e.2 = u at *
  generalize mx e.1 e.2 = v at *
  generalize e.1 = x at *
  generalize e.2 = y at *
  constructor
  · rintro ((h | h) | h) <;> omega
  · rintro ((((h | h) | h) | h) | h) <;> omega
def twin (a b : Lk) : Bool := (((a.1 == b.1) && (a.2 == b.2)) || ((a.1 == b.2) && (a.2 == b.1)))
theorem f77_val (l : List Lk) (x : Lk) (hl : l.length ≤ 9223372036854775807) : F77 l x = some (l.any (fun y => x.1 == y.1 && x.2 == y.2)) := by
  have hw : whileM (F89_L0 l (x.1, x.2)) 0 = some (found () (scan (fun k (e : Lk) => if (x.1 == e.1 && x.2 == e.2) = true then some (k : Int) else none) l 0)) := by
    refine while_scan hl _ (fun k e h => ?_) (by simp [F89_L0])
    have hk := lt_of_get h
    cases c : (x.1 == e.1 && x.2 == e.2) <;> simp only [F89_L0, idx_some h, c, going, Option.bind_some] <;> simp [hk]
  unfold F77 F89
  rw [hw]
  cases y : scan (fun k (e : Lk) => if (x.1 == e.1 && x.2 == e.2) = true then some (k : Int) else none) l 0 with
  | none =>
    have : l.any (fun y => x.1 == y.1 && x.2 == y.2) = false := by
      rw [List.any_eq_false]
      intro e he
      obtain ⟨i, hi⟩ := List.getElem?_of_mem he
      have := scan_none.1 y i e hi
      intro hc; rw [if_pos hc] at this; cases this
    rw [this]; simp [found]
  | some r =>
    obtain ⟨i, e, hi, he⟩ := scan_val y
    have hc : (x.1 == e.1 && x.2 == e.2) = true := by
      cases c : (x.1 == e.1 && x.2 == e.2) with
      | true => rfl
      | false => rw [c] at he; simp at he
    rw [if_pos hc] at he
    simp at he
    subst he
    have : l.any (fun y => x.1 == y.1 && x.2 == y.2) = true := List.any_eq_true.2 ⟨e, List.mem_of_getElem? hi, hc⟩
    rw [this]; simp [found]
def twice (l : List Lk) : Option Unit := scan (fun k e => if (l.take k).any (twin e) = true then some () else none) l 0
theorem f49_l0 (n : Int) (l : List Lk) (hl : l.length ≤ 9223372036854775807) : whileM (F49_L0 n l) 0 = some (found () (cond (l.any (offL n)) (some 2) none)) := by
  rw [← scan_any (k := 0)]
  refine while_scan hl _ (fun k e h => ?_) (by simp [F49_L0])
  have hk := lt_of_get h
  cases c : offL n e <;> simp only [F49_L0, idx_some h, offL_mn, c, going, Option.bind_some] <;> simp [hk]
theorem f42_l0 (n : Int) (l : List Lk) (hl : l.length ≤ 9223372036854775807) : whileM (F42_L0 n l) 0 = some (found () (cond (l.any (offL n)) (some 2) none)) := by
  rw [← scan_any (k := 0)]
  refine while_scan hl _ (fun k e h => ?_) (by simp [F42_L0])
  have hk := lt_of_get h
  have eo : ((((((decide (e.1 < 0)) || (decide (e.1 ≥ n))) || (decide (e.2 < 0))) || (decide (e.2 ≥ n))) || (e.1 == e.2))) = offL n e := rfl
  cases c : offL n e <;> simp only [F42_L0, idx_some h, eo, c, going, Option.bind_some] <;> simp [hk]
theorem f49_l1 (l : List Lk) (hl : l.length ≤ 9223372036854775807) : whileM (F49_L1 l) 0 = some (found () ((twice l).map (fun _ => 3))) := by
  unfold twice
  rw [← scan_const]
  refine while_scan hl _ (fun k e h => ?_) (by simp [F49_L1])
  have hk := lt_of_get h
  have h1 := f77_val (l.take k) (e.1, e.2) (by simp; omega)
  have h2 := f77_val (l.take k) (e.2, e.1) (by simp; omega)
  have h3 : ((l.take k).any (fun y => e.1 == y.1 && e.2 == y.2) || (l.take k).any (fun y => e.2 == y.1 && e.1 == y.2)) = (l.take k).any (twin e) := by
    rw [any_or]
    congr 1
    funext y
    unfold twin
    cases (e.1 == y.1) <;> cases (e.2 == y.2) <;> cases (e.2 == y.1) <;> cases (e.1 == y.2) <;> rfl
  rw [← h3]
  simp only [F49_L1, idx_some h, slI_take hk, h1, h2, Option.bind_some]
  cases (l.take k).any (fun y => e.1 == y.1 && e.2 == y.2) <;> cases (l.take k).any (fun y => e.2 == y.1 && e.1 == y.2) <;> simp [hk, going]
theorem f43_val (l : List Lk) (hl : l.length ≤ 9223372036854775807) : F43 l = some (twice l).isSome := by
  have h0 : whileM (F43_L0 l) 0 = some (found () ((twice l).map (fun _ => true))) := by
    unfold twice
    rw [← scan_const]
    refine while_scan hl _ (fun k e h => ?_) (by simp [F43_L0])
    have hk := lt_of_get h
    have h1 : whileM (F43_L1 e (l.take k)) 0 = some (found () (cond ((l.take k).any (twin e)) (some true) none)) := by
      rw [← scan_any (k := 0)]
      refine while_scan (by simp; omega) _ (fun j b h => ?_) (by simp [F43_L1])
      have hj := lt_of_get h
      have et : (((e.1 == b.1) && (e.2 == b.2)) || ((e.1 == b.2) && (e.2 == b.1))) = twin e b := rfl
      have hj' : (j : Int) < ((l.take k).length : Int) := by omega
      cases c : twin e b <;> simp only [F43_L1, idx_some h, et, c, going, Option.bind_some, decide_eq_true hj', cond_true, cond_false] <;> simp
    simp only [F43_L0, idx_some h, slI_take hk, h1, Option.bind_some]
    cases c : (l.take k).any (twin e) <;> simp [hk, going, found]
  unfold F43
  rw [h0]
  cases twice l <;> simp [found]
theorem check_same (n : Int) (l : List Lk) (hl : l.length ≤ 9223372036854775807) : ∃ r, F49 n l = some r ∧ F20 n l = some r ∧ (r = 0 → 1 ≤ n ∧ n ≤ 6 ∧ ∀ x ∈ l, offL n x = false) := by
  unfold F49 F20 F42
  rw [f49_l0 n l hl, f42_l0 n l hl, f49_l1 l hl, f43_val l hl]
  cases c : (((decide (n < 1)) || (decide (n > 6))) || (decide ((l.length : Int) > 15))) with
  | true => exact ⟨1, rfl, rfl, by simp⟩
  | false =>
    simp only [Bool.or_eq_false_iff, decide_eq_false_iff_not] at c
    cases d : l.any (offL n) with
    | true => exact ⟨2, rfl, rfl, by simp⟩
    | false =>
      cases t : twice l with
      | some u => exact ⟨3, rfl, rfl, by simp⟩
      | none => exact ⟨0, rfl, rfl, fun _ => ⟨by omega, by omega, fun x hx => by have := List.any_eq_false.1 d x hx; simpa using this⟩⟩

theorem low_same (n : Nat) (hn : n ≤ 6) (l : List Lk) (hl : l.length ≤ 9223372036854775807) (hw : ∀ x ∈ l, offL (n : Int) x = false) : ∃ s, F50 (n : Int) l = some s ∧ F21 (n : Int) l = some s ∧ ∀ b, b < n → s.getLsbD b = l.all (fun x => decide (x.1.toNat ≠ b)) := by
  have hb : ∀ x ∈ l, 0 ≤ x.1 ∧ x.1 < n := fun x hx => by
    have := hw x hx
    simp only [offL, Bool.or_eq_false_iff, decide_eq_false_iff_not] at this
    omega
  have h50 : ∀ s : BitVec 32, whileM (F50_L0 l) (s, 0) = some (.brk (l.foldl (fun t x => t &&& ~~~(1#32 <<< x.1.toNat)) s)) := fun s => by
    have := while_fold (xs := l) (body := F50_L0 l) (fun k t => (t, (k : Int))) (fun _ (x : Lk) t => t &&& ~~~(1#32 <<< x.1.toNat)) id s
      (fun k e t h => by
        have hk := lt_of_get h
        have he := hb e (List.mem_of_getElem? h)
        have hs : shc e.1 = some e.1.toNat := by unfold shc; rw [if_pos he.1]
        simp only [F50_L0, idx_some h, hs, Option.bind_some, w64_succ hk hl]
        simp [hk])
      (fun t => by simp [F50_L0])
    rw [foldl_zip (fun (x : Lk) t => t &&& ~~~(1#32 <<< x.1.toNat))] at this
    exact this
  have h21 : ∀ i : Nat, whileM (F21_L1 l (i : Int)) (true, 0) = some (.brk (l.all (fun x => x.1 != (i : Int)))) := fun i => by
    have := while_fold (xs := l) (body := F21_L1 l (i : Int)) (fun k t => (t, (k : Int))) (fun _ (x : Lk) t => t && (x.1 != (i : Int))) id true
      (fun k e t h => by
        have hk := lt_of_get h
        simp only [F21_L1, idx_some h, Option.bind_some, w64_succ hk hl]
        simp [hk])
      (fun t => by simp [F21_L1])
    rw [foldl_zip (fun (x : Lk) t => t && (x.1 != (i : Int)))] at this
    have key : ∀ (l : List Lk) (t : Bool), l.foldl (fun t x => t && (x.1 != (i : Int))) t = (t && l.all (fun x => x.1 != (i : Int))) := by
      intro l
      induction l with
      | nil => intro t; simp
      | cons x l ih => intro t; rw [List.foldl_cons, ih, List.all_cons, Bool.and_assoc]
    rw [key, Bool.true_and] at this
    exact this
  have h21' : whileM (F21_L0 (n : Int) l) (0#32, 0) = some (.brk ((List.range n).foldl (fun (t : BitVec 32) (k : Nat) => cond (l.all (fun x => x.1 != (k : Int))) (t + (1#32 <<< k)) t) 0#32)) :=
    while_foldN (fun k t => (t, (k : Int))) n (fun (k : Nat) (t : BitVec 32) => cond (l.all (fun x => x.1 != (k : Int))) (t + (1#32 <<< k)) t) id 0#32
      (fun k t hk => by
        simp only [F21_L0, h21, Option.bind_some, w64_succ hk (by omega), u64_nat (show k ≤ 18446744073709551615 by omega)]
        cases l.all (fun x => x.1 != (k : Int)) <;> simp [hk])
      (fun t => by simp [F21_L0])
  unfold F50 F21
  rw [h21']
  simp only [shc_nat, Option.bind_some, h50]
  refine ⟨_, rfl, ?_, fun b hb' => by rw [fold_out (fun x : Lk => x.1.toNat) l _ (fun x hx => by have := hb x hx; omega), ones_bit n (by omega) b (by omega)]; simp [hb']⟩
  refine congrArg some ?_
  apply BitVec.eq_of_getLsbD_eq
  intro b hb32
  rw [fold_plus _ _ (by omega), fold_out (fun x : Lk => x.1.toNat) l _ (fun x hx => by have := hb x hx; omega), ones_bit n (by omega) b hb32]
  by_cases hbn : b < n
  · simp only [decide_eq_true hbn, Bool.true_and]
    rw [Bool.eq_iff_iff]
    simp only [List.all_eq_true, bne_iff_ne, decide_eq_true_eq]
    constructor
    · intro h x hx; have := h x hx; have := hb x hx; omega
    · intro h x hx; have := h x hx; have := hb x hx; omega
  · simp [hbn]

theorem law_ForkLows (a0 : Int) (_ : i64 a0) (a1 : List Lk) (h : a1.length ≤ 9223372036854775807) (_ : ∀ x ∈ a1, i64 x.1 ∧ i64 x.2) : F5 a0 a1 = some true := by
  obtain ⟨r, h1, h2, h3⟩ := check_same a0 a1 h
  unfold F5 F19
  rw [h1, h2]
  by_cases c : r = 0
  · subst c
    obtain ⟨q1, q2, q3⟩ := h3 rfl
    obtain ⟨n, rfl⟩ : ∃ n : Nat, a0 = n := ⟨a0.toNat, by omega⟩
    obtain ⟨s, e1, e2, _⟩ := low_same n (by omega) a1 h q3
    simp [e1, e2]
  · have : (r != 0) = true := by simpa using c
    simp [this]
end Go.Proofs.Ytdjmlbjkendobaa
