/-
  The plain law of EchoPlays: what is refused; who is near to whom.
-/
import Derived.Test.YtpeijfboikfcjaaBM
import Derived.Test.YtpeijfboikfcjaaPl
import Derived.Test.YtpeijfboikfcjaaPw
import Derived.Test.YtpeijfboikfcjaaBk6
namespace Go.Proofs.Ytpeijfboikfcjaa
open Go Go.Bk
set_option linter.unusedVariables false
set_option linter.unusedSimpArgs false
abbrev Lk2 := Int × Int
theorem appS {α : Type} (b : Nat) (hb : b ≤ 32) (l m : List α) (h : l.length + m.length ≤ 10000) : appl b l m = some (l ++ m) := by
  unfold appl; rw [if_pos]
  have : (l.length + m.length) * b ≤ 10000 * 32 := Nat.mul_le_mul h hb
  omega
def off0 (n : Int) (l : Lk2) : Bool := ((decide ((mn l.1 l.2) < 0)) || (decide ((mx l.1 l.2) ≥ n))) || (l.1 == l.2)
def off1 (n : Int) (l : Lk2) : Bool := ((((decide (l.1 < 0)) || (decide (l.1 ≥ n))) || (decide (l.2 < 0))) || (decide (l.2 ≥ n))) || (l.1 == l.2)
theorem off_eq (n : Int) : off0 n = off1 n := by
  funext l
  unfold off0 off1
  rw [Bool.eq_iff_iff]
  have e1 : mn l.1 l.2 < 0 ↔ l.1 < 0 ∨ l.2 < 0 := by unfold mn; split <;> omega
  have e2 : mx l.1 l.2 ≥ n ↔ l.1 ≥ n ∨ l.2 ≥ n := by unfold mx; split <;> omega
  simp only [Bool.or_eq_true, decide_eq_true_eq, beq_iff_eq, e1, e2]
  omega
theorem f10_l0 {a0 : Int} {a1 : List Lk2} (hl : a1.length ≤ 9223372036854775807) : whileM (F10_L0 a0 a1) 0 = some (found () (cond (a1.any (off1 a0)) (some 2) none)) := by
  rw [← off_eq, ← scan_any (k := 0)]
  refine while_scan hl _ (fun k e h => ?_) (by simp [F10_L0])
  have hk := lt_of_get h
  have hd : decide ((k : Int) < (a1.length : Int)) = true := by rw [decide_eq_true_eq]; omega
  cases c : off0 a0 e <;> (unfold off0 at c; simp only [F10_L0, idx_some h, hd, c, going, Option.bind_some, cond_true, cond_false]; simp)
theorem f5_l0 {a0 : Int} {a1 : List Lk2} (hl : a1.length ≤ 9223372036854775807) : whileM (F5_L0 a0 a1) 0 = some (found () (cond (a1.any (off1 a0)) (some 2) none)) := by
  rw [← scan_any (k := 0)]
  refine while_scan hl _ (fun k e h => ?_) (by simp [F5_L0])
  have hk := lt_of_get h
  have hd : decide ((k : Int) < (a1.length : Int)) = true := by rw [decide_eq_true_eq]; omega
  cases c : off1 a0 e <;> (unfold off1 at c; simp only [F5_L0, idx_some h, hd, c, going, Option.bind_some, cond_true, cond_false]; simp)
def eqL (x o : Lk2) : Bool := x.1 == o.1 && x.2 == o.2
theorem f19_val (l : List Lk2) (x : Lk2) (hl : l.length ≤ 9223372036854775807) : F19 l x = some (l.any (eqL x)) := by
  have hw : whileM (F23_L0 l (x.1, x.2)) 0 = some (found () (scan (fun k (e : Lk2) => if (eqL x e) = true then some (k : Int) else none) l 0)) := by
    refine while_scan hl _ (fun k e h => ?_) (by simp [F23_L0])
    have hk := lt_of_get h
    have hd : decide ((k : Int) < (l.length : Int)) = true := by rw [decide_eq_true_eq]; omega
    cases c : eqL x e <;> (unfold eqL at c; simp only [F23_L0, idx_some h, hd, c, going, Option.bind_some, cond_true, cond_false]; simp)
  unfold F19 F23
  rw [hw]
  cases y : scan (fun k (e : Lk2) => if (eqL x e) = true then some (k : Int) else none) l 0 with
  | none =>
    have : l.any (eqL x) = false := by
      rw [List.any_eq_false]
      intro e he
      obtain ⟨i, hi⟩ := List.getElem?_of_mem he
      have := scan_none.1 y i e hi
      intro hc; rw [if_pos hc] at this; cases this
    rw [this]; simp [found, Ctl.on]
  | some r =>
    obtain ⟨i, e, hi, he⟩ := scan_val y
    have hc : eqL x e = true := by
      cases c : eqL x e with
      | true => rfl
      | false => rw [c] at he; simp at he
    rw [if_pos hc] at he
    simp at he
    subst he
    have : l.any (eqL x) = true := List.any_eq_true.2 ⟨e, List.mem_of_getElem? hi, hc⟩
    rw [this]; simp [found, Ctl.on]
def dupP (L : List Lk2) (k : Nat) (e : Lk2) : Bool := (L.take k).any (eqL e) || (L.take k).any (eqL (e.2, e.1))
def anyK {α : Type} (p : Nat → α → Bool) : List α → Nat → Bool
  | [], _ => false
  | e :: l, k => p k e || anyK p l (k + 1)
theorem scan_bool {α ρ : Type} (p : Nat → α → Bool) (r : ρ) : ∀ (l : List α) (k : Nat), scan (fun k e => cond (p k e) (some r) none) l k = cond (anyK p l k) (some r) none
  | [], k => rfl
  | e :: l, k => by
    rw [scan, anyK, scan_bool p r l (k + 1)]
    cases p k e <;> rfl
theorem f10_l1 (a1 : List Lk2) (hl : a1.length ≤ 9223372036854775807) : whileM (F10_L1 a1) 0 = some (found () (cond (anyK (dupP a1) a1 0) (some 3) none)) := by
  rw [← scan_bool]
  refine while_scan hl _ (fun k e h => ?_) (by simp [F10_L1])
  have hk := lt_of_get h
  have hd : decide ((k : Int) < (a1.length : Int)) = true := by rw [decide_eq_true_eq]; omega
  have h1 := f19_val (a1.take k) (e.1, e.2) (by simp; omega)
  have h1 : F19 (a1.take k) (e.1, e.2) = some ((a1.take k).any (eqL e)) := h1
  have h2 := f19_val (a1.take k) (e.2, e.1) (by simp; omega)
  unfold dupP
  cases c : (a1.take k).any (eqL e) <;> cases c2 : (a1.take k).any (eqL (e.2, e.1)) <;> (rw [c] at h1; rw [c2] at h2; simp only [F10_L1, hd, idx_some h, slI_take hk, h1, h2, going, Option.bind_some, cond_true, cond_false]; rfl)
def both2 (x o : Lk2) : Bool := ((x.1 == o.1) && (x.2 == o.2)) || ((x.1 == o.2) && (x.2 == o.1))
theorem both_dup (L : List Lk2) (k : Nat) (e : Lk2) : (L.take k).any (both2 e) = dupP L k e := by
  unfold dupP
  rw [any_or]
  congr 1
  funext o
  unfold both2 eqL
  rw [Bool.and_comm (e.1 == o.2)]
theorem f6_val (a1 : List Lk2) (hl : a1.length ≤ 9223372036854775807) : F6 a1 = some (anyK (dupP a1) a1 0) := by
  have h0 : whileM (F6_L0 a1) 0 = some (found () (cond (anyK (dupP a1) a1 0) (some true) none)) := by
    rw [← scan_bool]
    refine while_scan hl _ (fun k e h => ?_) (by simp [F6_L0])
    have hk := lt_of_get h
    have hd : decide ((k : Int) < (a1.length : Int)) = true := by rw [decide_eq_true_eq]; omega
    have hw : whileM (F6_L1 e (a1.take k)) 0 = some (found () (cond (dupP a1 k e) (some true) none)) := by
      rw [← both_dup, ← scan_any (k := 0)]
      refine while_scan (by simp; omega) _ (fun j o ho => ?_) (by simp only [F6_L1]; simp)
      have hj := lt_of_get ho
      have hd2 : decide ((j : Int) < ((a1.take k).length : Int)) = true := by rw [decide_eq_true_eq]; omega
      cases c : both2 e o <;> (unfold both2 at c; simp only [F6_L1, idx_some ho, hd2, c, going, Option.bind_some, cond_true, cond_false]; simp)
    cases c : dupP a1 k e <;> (rw [c] at hw; simp only [F6_L0, hd, idx_some h, slI_take hk, hw, found, going, Option.bind_some, cond_true, cond_false, Ctl.on])
  unfold F6
  rw [h0]
  cases anyK (dupP a1) a1 0 <;> rfl
theorem rep_val {n : Nat} (h1 : 1 ≤ n) (h6 : n ≤ 6) (x : Int) : F11 [x] (n : Int) = some (List.replicate n x) := by
  have e1 : u64 (([x] : List Int).length : Int) = 1 := by rfl
  have e2 : u64 (n : Int) = n := u64_of (by omega) (by omega)
  have e3 : w64 (n : Int) = n := w64_of (by omega) (by omega)
  have hm : mkl (n : Int) 8 (0 : Int) = some (List.replicate n 0) := by unfold mkl; rw [if_pos ⟨by omega, by omega, by omega⟩]; simp
  have hd : decide ((n : Int) < 0) = false := by rw [decide_eq_false_iff_not]; omega
  have hd2 : decide ((n : Int) > 9223372036854775807) = false := by rw [decide_eq_false_iff_not]; omega
  have hf : ∀ n : Nat, n < 7 → F20 1 (n : Int) = some (0, (n : Int)) := by
    intro n hn
    have : n = 0 ∨ n = 1 ∨ n = 2 ∨ n = 3 ∨ n = 4 ∨ n = 5 ∨ n = 6 := by omega
    rcases this with rfl | rfl | rfl | rfl | rfl | rfl | rfl <;> rfl
  have key : whileM F11_L0 ((cpy (List.replicate n (0 : Int)) (0 : Int).toNat [x]), ((min ([x] : List Int).length ((List.replicate n (0 : Int)).length - (0 : Int).toNat) : Nat) : Int)) = some (.brk (List.replicate n x)) := by
    have : n = 1 ∨ n = 2 ∨ n = 3 ∨ n = 4 ∨ n = 5 ∨ n = 6 := by omega
    rcases this with rfl | rfl | rfl | rfl | rfl | rfl
    · exact whileM_brk (by rfl)
    · exact (whileM_nxt (s' := ([x, x], 2)) (by rfl)).trans (whileM_brk (by rfl))
    · exact (whileM_nxt (s' := ([x, x, 0], 2)) (by rfl)).trans ((whileM_nxt (s' := ([x, x, x], 3)) (by rfl)).trans (whileM_brk (by rfl)))
    · exact (whileM_nxt (s' := ([x, x, 0, 0], 2)) (by rfl)).trans ((whileM_nxt (s' := ([x, x, x, x], 4)) (by rfl)).trans (whileM_brk (by rfl)))
    · exact (whileM_nxt (s' := ([x, x, 0, 0, 0], 2)) (by rfl)).trans ((whileM_nxt (s' := ([x, x, x, x, 0], 4)) (by rfl)).trans ((whileM_nxt (s' := ([x, x, x, x, x], 5)) (by rfl)).trans (whileM_brk (by rfl))))
    · exact (whileM_nxt (s' := ([x, x, 0, 0, 0, 0], 2)) (by rfl)).trans ((whileM_nxt (s' := ([x, x, x, x, 0, 0], 4)) (by rfl)).trans ((whileM_nxt (s' := ([x, x, x, x, x, x], 6)) (by rfl)).trans (whileM_brk (by rfl))))
  unfold F11
  simp only [e1, e2, hf n (by omega), hd, cond_false, Option.bind_some, hd2, Bool.or_false, e3, hm, key, Ctl.on]
  rfl
/-! Who is near. -/
def Ok2 (n : Nat) (L : List Lk2) : Prop := ∀ l ∈ L, (0 ≤ l.1 ∧ l.1 < (n : Int)) ∧ (0 ≤ l.2 ∧ l.2 < (n : Int)) ∧ l.1 ≠ l.2
def oth (i : Int) (l : Lk2) : Option Int := if l.1 = i then some l.2 else if l.2 = i then some l.1 else none
def rowOf (L : List Lk2) (i : Int) : List Int := L.filterMap (oth i)
def jn (i v : Int) (l : Lk2) : Bool := ((l.1 == i) && (l.2 == v)) || ((l.2 == i) && (l.1 == v))
def nrf (L : List Lk2) (i : Int) : Nat → List Int
  | 0 => []
  | m + 1 => nrf L i m ++ List.replicate (L.countP (jn i (m : Int))) (m : Int)
theorem nrf_mem {L : List Lk2} {i : Int} : ∀ m x, x ∈ nrf L i m → 0 ≤ x ∧ x < (m : Int)
  | 0, x, h => by cases h
  | m + 1, x, h => by
    rcases List.mem_append.1 h with q | q
    · have := nrf_mem m x q; omega
    · rw [(List.mem_replicate.1 q).2]; omega
theorem nrf_sorted {L : List Lk2} {i : Int} : ∀ m, (nrf L i m).Pairwise (fun a b => a ≤ b)
  | 0 => List.Pairwise.nil
  | m + 1 => by
    rw [nrf, List.pairwise_append]
    refine ⟨nrf_sorted m, List.pairwise_replicate.2 (.inr (Int.le_refl _)), fun a ha b hb => ?_⟩
    have := nrf_mem m a ha
    rw [(List.mem_replicate.1 hb).2]
    omega
theorem nrf_count {L : List Lk2} {i : Int} (v : Int) : ∀ m, (nrf L i m).count v = if 0 ≤ v ∧ v < (m : Int) then L.countP (jn i v) else 0
  | 0 => by rw [if_neg (by omega)]; rfl
  | m + 1 => by
    rw [nrf, List.count_append, nrf_count v m, List.count_replicate]
    by_cases e : v = (m : Int)
    · subst e
      rw [if_neg (by omega), if_pos (by simp), if_pos (by omega), Nat.zero_add]
    · have : ((m : Int) == v) = false := by simpa using fun h => e h.symm
      simp only [this, Bool.false_eq_true, if_false, Nat.add_zero]
      by_cases h : 0 ≤ v ∧ v < (m : Int)
      · rw [if_pos h, if_pos (by omega)]
      · rw [if_neg h, if_neg (by omega)]
theorem row_count {n : Nat} (i v : Int) : ∀ {L : List Lk2}, Ok2 n L → (rowOf L i).count v = L.countP (jn i v)
  | [], _ => rfl
  | l :: L, h => by
    have ih := row_count i v (fun x hx => h x (List.mem_cons_of_mem l hx))
    obtain ⟨h1, h2, h3⟩ := h l (by simp)
    unfold rowOf at ih ⊢
    rw [List.countP_cons, ← ih]
    by_cases e1 : l.1 = i
    · have e2 : ¬ l.2 = i := fun e => h3 (by rw [e1, e])
      have ho : oth i l = some l.2 := by unfold oth; rw [if_pos e1]
      have hj : jn i v l = (l.2 == v) := by unfold jn; simp [e1, e2]
      rw [List.filterMap_cons_some ho, List.count_cons, hj]
    · by_cases e2 : l.2 = i
      · have ho : oth i l = some l.1 := by unfold oth; rw [if_neg e1, if_pos e2]
        have hj : jn i v l = (l.1 == v) := by unfold jn; simp [e1, e2]
        rw [List.filterMap_cons_some ho, List.count_cons, hj]
      · have ho : oth i l = none := by unfold oth; rw [if_neg e1, if_neg e2]
        have hj : jn i v l = false := by unfold jn; simp [e1, e2]
        rw [List.filterMap_cons_none ho, hj]
        simp
theorem jn_none {n : Nat} {L : List Lk2} (h : Ok2 n L) {i v : Int} (hv : ¬ (0 ≤ v ∧ v < (n : Int))) : L.countP (jn i v) = 0 := by
  rw [List.countP_eq_zero]
  intro l hl
  obtain ⟨h1, h2, h3⟩ := h l hl
  unfold jn
  simp only [Bool.or_eq_true, Bool.and_eq_true, beq_iff_eq]
  omega
theorem row_sorted {n : Nat} {L : List Lk2} (h : Ok2 n L) (i : Int) : sorted (rowOf L i) = nrf L i n := by
  have tr : ∀ a b c : Int, decide (a ≤ b) = true → decide (b ≤ c) = true → decide (a ≤ c) = true := fun a b c h1 h2 => by simp only [decide_eq_true_eq] at *; omega
  have to : ∀ a b : Int, (decide (a ≤ b) || decide (b ≤ a)) = true := fun a b => by simp only [Bool.or_eq_true, decide_eq_true_eq]; omega
  have hp : (sorted (rowOf L i)).Perm (nrf L i n) := by
    refine (List.mergeSort_perm _ _).trans ?_
    rw [List.perm_iff_count]
    intro v
    rw [row_count i v h, nrf_count]
    by_cases q : 0 ≤ v ∧ v < (n : Int)
    · rw [if_pos q]
    · rw [if_neg q, jn_none h q]
  refine List.Perm.eq_of_pairwise (le := fun a b => decide (a ≤ b) = true) (fun a b _ _ h1 h2 => ?_) (List.pairwise_mergeSort tr to _) ((nrf_sorted n).imp fun {a b} q => by rw [decide_eq_true_eq]; exact q) hp
  simp only [decide_eq_true_eq] at h1 h2
  omega
theorem row_len (L : List Lk2) (i : Int) : (rowOf L i).length ≤ L.length := List.length_filterMap_le _ _
theorem nrf_len {n : Nat} {L : List Lk2} (h : Ok2 n L) (i : Int) : (nrf L i n).length ≤ L.length := by
  rw [← row_sorted h, sorted_len]; exact row_len L i
theorem nrf_le (L : List Lk2) (i : Int) : ∀ m, (nrf L i m).length ≤ m * L.length
  | 0 => by simp [nrf]
  | m + 1 => by
    rw [nrf, List.length_append, List.length_replicate, Nat.add_mul, Nat.one_mul]
    have := nrf_le L i m
    have := List.countP_le_length (p := jn i (m : Int)) (l := L)
    omega
theorem f17_l1 (L : List Lk2) (hl : L.length ≤ 15) (i v : Int) : ∀ (m k : Nat) (y : List Int), k + m = L.length → y.length ≤ 90 + k → whileM (F17_L1 L i v) (y, (k : Int)) = some (.brk (y ++ List.replicate ((L.drop k).countP (jn i v)) v))
  | 0, k, y, hk, hy => by
    have hd : decide ((k : Int) < (L.length : Int)) = false := by rw [decide_eq_false_iff_not]; omega
    rw [List.drop_eq_nil_of_le (by omega)]
    refine whileM_brk ?_
    simp only [F17_L1, hd, cond_false]
    simp
  | m + 1, k, y, hk, hy => by
    have hlt : k < L.length := by omega
    have hd : decide ((k : Int) < (L.length : Int)) = true := by rw [decide_eq_true_eq]; omega
    have hg := List.getElem?_eq_getElem hlt
    have hw := w64_succ hlt (show L.length ≤ 9223372036854775807 by omega)
    rw [List.drop_eq_getElem_cons hlt, List.countP_cons]
    cases c : jn i v L[k] with
    | true =>
      have c' := c
      unfold jn at c'
      have ha := appS 8 (by omega) y [v] (by simp; omega)
      have ih := f17_l1 L hl i v m (k + 1) (y ++ [v]) (by omega) (by simp; omega)
      rw [whileM_nxt (s' := (y ++ [v], ((k + 1 : Nat) : Int))), ih]
      · rw [List.append_assoc]; congr 3
      · simp only [F17_L1, hd, cond_true, idx_some hg, Option.bind_some, c', ha, hw]
    | false =>
      have c' := c
      unfold jn at c'
      have ih := f17_l1 L hl i v m (k + 1) y (by omega) (by omega)
      rw [whileM_nxt (s' := (y, ((k + 1 : Nat) : Int))), ih]
      · simp
      · simp only [F17_L1, hd, cond_true, cond_false, idx_some hg, Option.bind_some, c', hw]
theorem f17_val {n : Nat} (hn : n ≤ 6) (L : List Lk2) (hl : L.length ≤ 15) (i : Int) : F17 (n : Int) L i = some (nrf L i n) := by
  have h0 : whileM (F17_L0 (n : Int) L i) ((fun m : Nat => (nrf L i m, (m : Int))) 0) = some (.brk (nrf L i n)) := by
    refine while_upto (fun m : Nat => (nrf L i m, (m : Int))) n (fun m hm => ?_) ?_ (fun s h => by cases h)
    · have hd : decide ((m : Int) < (n : Int)) = true := by rw [decide_eq_true_eq]; omega
      have hb : (nrf L i m).length ≤ 90 := by
        have h1 := nrf_le L i m
        have h2 : m * L.length ≤ 6 * 15 := Nat.mul_le_mul (by omega) hl
        omega
      have h := f17_l1 L hl i (m : Int) L.length 0 (nrf L i m) (by omega) (by omega)
      have h : whileM (F17_L1 L i (m : Int)) (nrf L i m, 0) = some (.brk (nrf L i (m + 1))) := h
      simp only [F17_L0, hd, cond_true, h, Option.bind_some, Ctl.on, w64_succ hm (show n ≤ 9223372036854775807 by omega)]
    · have hd : decide ((n : Int) < (n : Int)) = false := by simp
      simp only [F17_L0, hd, cond_false]
  have h0 : whileM (F17_L0 (n : Int) L i) ([], 0) = some (.brk (nrf L i n)) := h0
  unfold F17
  rw [h0]
  rfl
end Go.Proofs.Ytpeijfboikfcjaa
