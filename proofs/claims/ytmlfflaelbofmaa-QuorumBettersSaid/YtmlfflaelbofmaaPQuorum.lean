/-
  The plain laws of QuorumWins and QuorumMeets.
-/
import Derived.Test.YtmlfflaelbofmaaAM
import Derived.Test.YtmlfflaelbofmaaPl
import Derived.Test.YtmlfflaelbofmaaBk6
namespace Go.Proofs.Ytmlfflaelbofmaa
open Go Go.Bk
set_option linter.unusedVariables false
set_option linter.unusedSimpArgs false

abbrev W32 := BitVec 32
theorem f69_any (l : List W32) (hl : l.length ≤ 9223372036854775807) {f : W32 → Option Bool} {p : W32 → Bool} (hf : ∀ z, f z = some (p z)) :
    F65 l f = some (l.any p) := by
  have hw : whileM (F69_L0 l f) 0 = some (found () (scan (fun k e => if p e = true then some (k : Int) else none) l 0)) := by
    refine while_scan hl _ (fun k e h => ?_) (by simp [F69_L0])
    have hk := lt_of_get h
    cases c : p e <;> simp [F69_L0, idx_some h, hk, hf, c, going]
  unfold F65 F69
  rw [hw]
  cases x : scan (fun k e => if p e = true then some (k : Int) else none) l 0 with
  | none =>
    have : l.any p = false := by
      rw [List.any_eq_false]
      intro e he
      obtain ⟨i, hi⟩ := List.getElem?_of_mem he
      have := scan_none.1 x i e hi
      cases c : p e <;> simp_all
    simp [found, this]
  | some r =>
    obtain ⟨i, e, hi, he⟩ := scan_val x
    cases c : p e with
    | false => rw [c] at he; simp at he
    | true =>
      rw [c] at he; simp at he; subst he
      have : l.any p = true := List.any_eq_true.2 ⟨e, List.mem_of_getElem? hi, c⟩
      simp [found, this]

theorem f32_l0 (n : Nat) (l : List W32) (hl : l.length ≤ 9223372036854775807) (hn : n < 32) :
    whileM (F32_L0 (n : Int) l) 0 = some (found () (cond (l.any (fun x => x == 0#32 || decide (1#32 <<< n ≤ x))) (some 4) none)) := by
  rw [← scan_any (k := 0)]
  refine while_scan hl _ (fun k e h => ?_) (by simp [F32_L0])
  have hk := lt_of_get h
  cases c : (e == 0#32 || decide (1#32 <<< n ≤ e)) <;> simp only [F32_L0, idx_some h, u64_nat (show n ≤ 18446744073709551615 by omega), c, going, Option.bind_some] <;> simp [hk]

theorem setsCheck_same (a0 : Int) (a1 : List W32) (a2 : W32) (hl : a1.length ≤ 9223372036854775807) : F54 a0 a1 a2 = F32 a0 a1 a2 ∧ ∃ r, F32 a0 a1 a2 = some r := by
  unfold F54 F32
  cases c : (((decide (a0 < 1)) || (decide (a0 > 6))) || (decide ((a1.length : Int) > 20))) with
  | true => simp
  | false =>
    simp only [Bool.or_eq_false_iff, decide_eq_false_iff_not] at c
    obtain ⟨n, rfl⟩ : ∃ n : Nat, a0 = n := ⟨a0.toNat, by omega⟩
    have hn : n < 32 := by omega
    have h66 : ∀ z, F66 z (n : Int) = some (z == 0#32 || decide (1#32 <<< n ≤ z)) := fun z => by
      unfold F66
      cases c : z == 0#32 <;> simp [shc_nat, shr_ne hn]
    rw [f69_any a1 hl h66, f32_l0 n a1 hl hn]
    simp only [Option.bind_some, shc_nat, shr_ne hn, u64_nat (show n ≤ 18446744073709551615 by omega), cond_false]
    cases a1.any (fun x => x == 0#32 || decide (1#32 <<< n ≤ x)) <;> cases h2 : decide (1#32 <<< n ≤ a2) <;> simp [found]

theorem andn_or (x s : W32) : ((x &&& ~~~s) == 0#32) = ((x ||| s) == s) := by
  rw [Bool.eq_iff_iff, beq_iff_eq, beq_iff_eq]
  have key : ∀ i, ((x &&& ~~~s).getLsbD i = (0#32).getLsbD i) ↔ ((x ||| s).getLsbD i = s.getLsbD i) := fun i => by
    by_cases hi : i < 32 <;> cases hx : x.getLsbD i <;> cases hs : s.getLsbD i <;> simp_all
  constructor
  · intro h; exact BitVec.eq_of_getLsbD_eq fun i _ => (key i).1 (by rw [h])
  · intro h; exact BitVec.eq_of_getLsbD_eq fun i _ => (key i).2 (by rw [h])

theorem wins_same (l : List W32) (s : W32) (hl : l.length ≤ 9223372036854775807) : F55 l s = F33 l s ∧ ∃ r, F33 l s = some r := by
  have h33 : whileM (F33_L0 l s) 0 = some (found () (cond (l.any (fun x => (x ||| s) == s)) (some true) none)) := by
    rw [← scan_any (k := 0)]
    refine while_scan hl _ (fun k e h => ?_) (by simp [F33_L0])
    have hk := lt_of_get h
    cases c : ((e ||| s) == s) <;> simp only [F33_L0, idx_some h, c, going, Option.bind_some] <;> simp [hk]
  unfold F55 F33
  rw [f69_any l hl (fun z => show F67 z s = some ((z ||| s) == s) by rw [← andn_or]; rfl), h33]
  cases l.any (fun x => (x ||| s) == s) <;> simp [found]

theorem law_QuorumWins (a0 : Int) (_ : i64 a0) (a1 : List W32) (h : a1.length ≤ 9223372036854775807) (_ : ∀ x ∈ a1, True) (a2 : W32) : F10 a0 a1 a2 = some true := by
  obtain ⟨e, r, hr⟩ := setsCheck_same a0 a1 a2 h
  obtain ⟨e', r', hr'⟩ := wins_same a1 a2 h
  unfold F10 F31
  rw [e, hr, e', hr']
  by_cases c : r = 0
  · subst c; simp
  · have : (r != 0) = true := by simpa using c
    simp [this]

theorem slI_take {α : Type} {l : List α} {k : Nat} (h : k < l.length) : slI l 0 (k : Int) = some (l.take k) := by unfold slI; rw [if_pos ⟨by omega, by omega, by omega⟩]; simp
def bad (a b : W32) : Bool := (((a &&& b) == (0#32)) || ((a &&& ~~~b) == (0#32))) || ((b &&& ~~~a) == (0#32))
def bad' (a b : W32) : Bool := ((a &&& b) == (0#32)) || ((a ||| b) == b)
theorem bad_or (a b : W32) : bad a b = (bad' a b || bad' b a) := by
  unfold bad bad'
  rw [andn_or, andn_or, BitVec.and_comm b a]
  cases ((a &&& b) == (0#32)) <;> simp
theorem f56_l1 (x : W32) (l : List W32) (hl : l.length ≤ 9223372036854775807) : whileM (F56_L1 x l) 0 = some (found () (scan (fun _ b => if bad x b = true then some false else none) l 0)) := by
  refine while_scan hl _ (fun k e h => ?_) (by simp [F56_L1])
  have hk := lt_of_get h
  have eb : ((((x &&& e) == (0#32)) || ((x &&& ~~~e) == (0#32))) || ((e &&& ~~~x) == (0#32))) = bad x e := rfl
  cases c : bad x e <;> simp only [F56_L1, idx_some h, eb, c, going, Option.bind_some] <;> simp [hk]
theorem f35_l1 (l : List W32) (i : Nat) (x : W32) (hi : l[i]? = some x) (hl : l.length ≤ 9223372036854775807) : whileM (F35_L1 l (i : Int)) 0 = some (found () (scan (fun j b => if (i : Int) ≠ (j : Int) ∧ bad' x b = true then some false else none) l 0)) := by
  refine while_scan hl _ (fun k e h => ?_) (by simp [F35_L1])
  have hk := lt_of_get h
  by_cases c1 : (i : Int) = (k : Int)
  · have : ((i : Int) != (k : Int)) = false := by simp [c1]
    simp [F35_L1, this, c1, going, hk]
  · have : ((i : Int) != (k : Int)) = true := by simpa using c1
    simp only [F35_L1, this, idx_some h, idx_some hi, Option.bind_some, cond_true]
    unfold bad'
    cases h1 : ((x &&& e) == (0#32)) <;> cases h2 : ((x ||| e) == e) <;> simp [hk, going, c1]
theorem meet_same (l : List W32) (hl : l.length ≤ 9223372036854775807) : F56 l = F35 l ∧ ∃ r, F35 l = some r := by
  have h1 : whileM (F56_L0 l) 0 = some (found () (scan (fun k a => scan (fun _ b => if bad a b = true then some false else none) (l.take k) 0) l 0)) := by
    refine while_scan hl _ (fun k e h => ?_) (by simp [F56_L0])
    have hk := lt_of_get h
    have hb := f56_l1 e (l.take k) (by simp; omega)
    cases c : scan (fun _ b => if bad e b = true then some false else none) (l.take k) 0 <;> rw [c] at hb <;> simp [F56_L0, idx_some h, hk, slI_take hk, hb, going, found]
  have h2 : whileM (F35_L0 l) 0 = some (found () (scan (fun k a => scan (fun j b => if (k : Int) ≠ (j : Int) ∧ bad' a b = true then some false else none) l 0) l 0)) := by
    refine while_scan hl _ (fun k e h => ?_) (by simp [F35_L0])
    have hk := lt_of_get h
    have hb := f35_l1 l k e h hl
    cases c : scan (fun j b => if (k : Int) ≠ (j : Int) ∧ bad' e b = true then some false else none) l 0 <;> rw [c] at hb <;> simp [F35_L0, hk, hb, going, found]
  unfold F56 F35
  rw [h1, h2, scan_pairs l false bad bad' bad_or]
  cases scan (fun k a => scan (fun j b => if (k : Int) ≠ (j : Int) ∧ bad' a b = true then some false else none) l 0) l 0 <;> simp [found]
theorem law_QuorumMeets (a0 : Int) (_ : i64 a0) (a1 : List W32) (h : a1.length ≤ 9223372036854775807) (_ : ∀ x ∈ a1, True) : F11 a0 a1 = some true := by
  obtain ⟨e, r, hr⟩ := setsCheck_same a0 a1 (0#32) h
  obtain ⟨e', r', hr'⟩ := meet_same a1 h
  unfold F11 F34
  rw [e, hr, e', hr']
  by_cases c : r = 0
  · subst c; simp
  · have : (r != 0) = true := by simpa using c
    simp [this]
end Go.Proofs.Ytmlfflaelbofmaa
