/-
  The plain law of QuorumFulls.
-/
import Derived.Test.YtmlfflaelbofmaaPQuorum
namespace Go.Proofs.Ytmlfflaelbofmaa
open Go Go.Bk
set_option linter.unusedVariables false
set_option linter.unusedSimpArgs false

def winsP (l : List W32) (s : W32) : Bool := l.any (fun x => (x ||| s) == s)
theorem wins_val (l : List W32) (s : W32) (hl : l.length ≤ 9223372036854775807) : F55 l s = some (winsP l s) ∧ F33 l s = some (winsP l s) := by
  have h1 : F55 l s = some (winsP l s) := by
    unfold F55; rw [f69_any l hl (fun z => show F67 z s = some ((z ||| s) == s) by rw [← andn_or]; rfl)]; rfl
  exact ⟨h1, by rw [← (wins_same l s hl).1]; exact h1⟩
theorem allbut (n : Nat) (hn : n < 7) (k : Nat) (hk : k < 2 ^ n) : ((1#32 <<< n) - 1#32) &&& ~~~(BitVec.ofNat 32 k) = ((1#32 <<< n) - 1#32) - BitVec.ofNat 32 k := by
  have key : ∀ n, n < 7 → ∀ k, k < 64 → k < 2 ^ n → ((1#32 <<< n) - 1#32) &&& ~~~(BitVec.ofNat 32 k) = ((1#32 <<< n) - 1#32) - BitVec.ofNat 32 k := by decide +kernel
  refine key n hn k ?_ hk
  have := Nat.pow_le_pow_right (n := 2) (by decide) (show n ≤ 6 by omega)
  omega
def lose (l : List W32) (n k : Nat) : Bool := !winsP l (BitVec.ofNat 32 k) && !winsP l (((1#32 <<< n) - 1#32) - BitVec.ofNat 32 k)
theorem lt_shl {n k : Nat} (hn : n < 7) (hk : k ≤ 2 ^ n) : decide (BitVec.ofNat 32 k < (1#32 <<< n)) = decide (k < 2 ^ n) := by
  have h64 := Nat.pow_le_pow_right (n := 2) (by decide) (show n ≤ 6 by omega)
  rw [decide_eq_decide, BitVec.lt_def, one_shl (by omega), BitVec.toNat_ofNat, Nat.mod_eq_of_lt (by omega)]
theorem ofNat_succ (k : Nat) : BitVec.ofNat 32 k + 1#32 = BitVec.ofNat 32 (k + 1) := by
  apply BitVec.eq_of_toNat_eq; simp
theorem full_same (n : Nat) (hn : n < 7) (l : List W32) (hl : l.length ≤ 9223372036854775807) : ∃ r x, F57 (n : Int) l = some (x, !r) ∧ F38 (n : Int) l = some r := by
  have h1 : whileM (F57_L0 l n) (BitVec.ofNat 32 0) = some (found () (scan (fun k (_ : Unit) => if lose l n k = true then some (BitVec.ofNat 32 k, true) else none) (List.replicate (2 ^ n) ()) 0)) := by
    refine while_scanN (BitVec.ofNat 32) (2 ^ n) _ (fun k hk => ?_) ?_
    · simp only [F57_L0, BitVec.sub_add_cancel, lt_shl hn (Nat.le_of_lt hk), (wins_val l _ hl).1, allbut n hn k hk, ofNat_succ, Option.bind_some]
      have e : lose l n k = (!winsP l (BitVec.ofNat 32 k) && !winsP l (((1#32 <<< n) - 1#32) - BitVec.ofNat 32 k)) := rfl
      rw [e]
      cases winsP l (BitVec.ofNat 32 k) <;> cases winsP l (((1#32 <<< n) - 1#32) - BitVec.ofNat 32 k) <;> simp [hk, going]
    · simp only [F57_L0, BitVec.sub_add_cancel, lt_shl hn (Nat.le_refl _)]; simp
  have h2 : whileM (F38_L0 (n : Int) l) (BitVec.ofNat 32 0) = some (found () (scan (fun k (_ : Unit) => if lose l n k = true then some false else none) (List.replicate (2 ^ n) ()) 0)) := by
    refine while_scanN (BitVec.ofNat 32) (2 ^ n) _ (fun k hk => ?_) ?_
    · simp only [F38_L0, u64_nat (show n ≤ 18446744073709551615 by omega), lt_shl hn (Nat.le_of_lt hk), (wins_val l _ hl).2, ofNat_succ, Option.bind_some]
      have e : lose l n k = (!winsP l (BitVec.ofNat 32 k) && !winsP l (((1#32 <<< n) - 1#32) - BitVec.ofNat 32 k)) := rfl
      rw [e]
      cases winsP l (BitVec.ofNat 32 k) <;> cases winsP l (((1#32 <<< n) - 1#32) - BitVec.ofNat 32 k) <;> simp [hk, going]
    · simp only [F38_L0, u64_nat (show n ≤ 18446744073709551615 by omega), lt_shl hn (Nat.le_refl _)]; simp
  unfold F57 F38
  simp only [shc_nat, Option.bind_some]
  rw [show (0#32 : W32) = BitVec.ofNat 32 0 from rfl, h1, h2]
  cases x : scan (fun k (_ : Unit) => if lose l n k = true then some (BitVec.ofNat 32 k, true) else none) (List.replicate (2 ^ n) ()) 0 with
  | none =>
    have := scanN_none.1 x
    have y : scan (fun k (_ : Unit) => if lose l n k = true then some false else none) (List.replicate (2 ^ n) ()) 0 = none := scanN_none.2 fun k hk => by
      have := this k hk; cases c : lose l n k <;> simp_all
    rw [y]
    exact ⟨true, _, rfl, rfl⟩
  | some r =>
    obtain ⟨k, hk, he⟩ := scanN_val x
    have hc : lose l n k = true := by cases c : lose l n k <;> simp_all
    rw [hc] at he
    simp at he
    subst he
    cases y : scan (fun k (_ : Unit) => if lose l n k = true then some false else none) (List.replicate (2 ^ n) ()) 0 with
    | none => have := scanN_none.1 y k hk; simp [hc] at this
    | some r' =>
      obtain ⟨k', hk', he'⟩ := scanN_val y
      have : r' = false := by cases c : lose l n k' <;> simp_all
      subst this
      exact ⟨false, _, rfl, rfl⟩

theorem law_QuorumFulls (a0 : Int) (_ : i64 a0) (a1 : List W32) (h : a1.length ≤ 9223372036854775807) (_ : ∀ x ∈ a1, True) : F12 a0 a1 = some true := by
  obtain ⟨e, r, hr⟩ := setsCheck_same a0 a1 (0#32) h
  obtain ⟨e', r', hr'⟩ := meet_same a1 h
  unfold F12 F36 F37
  rw [e, hr, e', hr']
  by_cases c : r = 0
  · subst c
    have hn : ∃ n : Nat, a0 = n ∧ n < 7 := by
      unfold F32 at hr
      cases c : (((decide (a0 < 1)) || (decide (a0 > 6))) || (decide ((a1.length : Int) > 20))) with
      | true => rw [c] at hr; simp at hr
      | false => simp only [Bool.or_eq_false_iff, decide_eq_false_iff_not] at c; exact ⟨a0.toNat, by omega, by omega⟩
    obtain ⟨n, rfl, hn⟩ := hn
    obtain ⟨q, x, h1, h2⟩ := full_same n hn a1 h
    cases r' <;> simp [h1, h2]
  · have : (r != 0) = true := by simpa using c
    have c' : (r == 0) = false := by simpa using c
    simp [this, c, c']
end Go.Proofs.Ytmlfflaelbofmaa
