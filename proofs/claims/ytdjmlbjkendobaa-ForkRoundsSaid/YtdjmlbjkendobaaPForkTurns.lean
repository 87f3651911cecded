/-
  The plain law of ForkTurns.
-/
import Derived.Test.YtdjmlbjkendobaaPForkLows
namespace Go.Proofs.Ytdjmlbjkendobaa
open Go Go.Bk
set_option linter.unusedVariables false
set_option linter.unusedSimpArgs false

theorem f23_val {w : BitVec 32} {j : Int} (h0 : 0 ≤ j) (hj : j < 32) : F23 w j = some (w.getLsbD j.toNat) := by
  obtain ⟨n, rfl⟩ : ∃ n : Nat, j = n := ⟨j.toNat, by omega⟩
  unfold F23
  rw [u64_nat (by omega), and_bit (by omega)]
  have h1 : decide ((n : Int) ≥ 0) = true := by simp
  have h2 : decide ((n : Int) < 32) = true := by simp; omega
  rw [h1, h2]; simp
def flip (i : Nat) (x : Lk) : Lk := cond (decide (x.2.toNat = i)) (x.2, x.1) x
theorem twos_self (l : List Lk) (hl : l.length ≤ 9223372036854775807) : F24 l l = some true := by
  have h : whileM (F24_L0 l l) 0 = some (found () (scan (fun _ (_ : Lk) => (none : Option Bool)) l 0)) := by
    refine while_scan hl _ (fun k e h => ?_) (by simp [F24_L0])
    have hk := lt_of_get h
    simp [F24_L0, idx_some h, hk, going]
  have hn : scan (fun _ (_ : Lk) => (none : Option Bool)) l 0 = none := scan_none.2 fun _ _ _ => rfl
  unfold F24
  rw [h, hn]
  simp [found]
theorem turn_val (l : List Lk) (i : Nat) (hi : i < 6) (hl : l.length ≤ 15) (hb : ∀ x ∈ l, 0 ≤ x.1 ∧ x.1 < 6 ∧ 0 ≤ x.2 ∧ x.2 < 6) : F51 l (1#32 <<< i) = some (l.map (flip i)) := by
  have h54 : F54 l = some l := by unfold F54 appl; rw [if_pos]; simp; simp; omega
  unfold F51
  rw [h54]
  simp only [Option.bind_some]
  have hw := while_upto (body := F51_L0 (1#32 <<< i) l) (fun k => ((l.take k).map (flip i) ++ l.drop k, (k : Int))) l.length (c := .brk (l.map (flip i)))
    (fun k hk => by
      have hg : l[k]? = some l[k] := List.getElem?_eq_getElem hk
      have hx := hb _ (List.getElem_mem hk)
      have hlen : ((l.take k).map (flip i)).length = k := by simp; omega
      have hd : l.drop k = l[k] :: l.drop (k + 1) := List.drop_eq_getElem_cons hk
      have hgy : ((l.take k).map (flip i) ++ l.drop k)[k]? = some l[k] := by
        rw [List.getElem?_append_right (by omega), hlen, hd]; simp
      have hs : shc l[k].2 = some l[k].2.toNat := by unfold shc; rw [if_pos hx.2.2.1]
      have hnext : (l.take (k + 1)).map (flip i) ++ l.drop (k + 1) = (l.take k).map (flip i) ++ flip i l[k] :: l.drop (k + 1) := by
        rw [List.take_add_one, hg, List.map_append]; simp only [Option.toList_some, List.map_cons, List.map_nil, List.append_assoc, List.singleton_append]
      have hset : ∀ z, ((l.take k).map (flip i) ++ l.drop k).set k z = (l.take k).map (flip i) ++ z :: l.drop (k + 1) := fun z => by
        rw [List.set_append_right _ _ (by omega), hlen, hd, Nat.sub_self]; rfl
      simp only [F51_L0, idx_some hgy, hs, and_one, bit_one (show i < 32 by omega), Option.bind_some, w64_succ hk (by omega)]
      rw [hnext]
      have hfl : flip i l[k] = cond (decide (l[k].2.toNat = i)) (l[k].2, l[k].1) l[k] := rfl
      rw [hfl]
      generalize hA : (l.take k).map (flip i) = A at *
      cases c : decide (l[k].2.toNat = i)
      · rw [hd]; simp [hk]
      · have := hset (l[k].2, l[k].1)
        simp [hk, this])
    (by simp [F51_L0]) (by intro s h; cases h)
  have hw' : whileM (F51_L0 (1#32 <<< i) l) (l, 0) = some (.brk (l.map (flip i))) := by
    have := hw
    simp only [List.take_zero, List.map_nil, List.drop_zero, List.nil_append] at this
    exact this
  rw [hw']
  rfl
theorem turned_val (l : List Lk) (i : Nat) (hi : i < 6) (hl : l.length ≤ 15) (hb : ∀ x ∈ l, 0 ≤ x.1 ∧ x.1 < 6 ∧ 0 ≤ x.2 ∧ x.2 < 6) (hlow : ∀ x ∈ l, x.1.toNat ≠ i) : F25 l (1#32 <<< i) = some (l.map (flip i)) := by
  have hw := while_upto (body := F25_L0 l (1#32 <<< i)) (fun k => ((l.take k).map (flip i), (k : Int))) l.length (c := .brk (l.map (flip i)))
    (fun k hk => by
      have hg : l[k]? = some l[k] := List.getElem?_eq_getElem hk
      have hx := hb _ (List.getElem_mem hk)
      have hlo := hlow _ (List.getElem_mem hk)
      have hlen : ((l.take k).map (flip i)).length = k := by simp; omega
      have happ : ∀ z : Lk, appl 16 ((l.take k).map (flip i)) [z] = some ((l.take k).map (flip i) ++ [z]) := fun z => by unfold appl; rw [if_pos]; rw [hlen]; simp; omega
      have hnext : (l.take (k + 1)).map (flip i) = (l.take k).map (flip i) ++ [flip i l[k]] := by rw [List.take_add_one, hg, List.map_append]; rfl
      have d1 : decide (l[k].1.toNat = i) = false := by simpa using hlo
      simp only [F25_L0, idx_some hg, f23_val hx.1 (show l[k].1 < 32 by omega), f23_val hx.2.2.1 (show l[k].2 < 32 by omega), bit_one (show i < 32 by omega), d1, Option.bind_some, w64_succ hk (by omega), cond_false]
      rw [hnext]
      have hfl : flip i l[k] = cond (decide (l[k].2.toNat = i)) (l[k].2, l[k].1) l[k] := rfl
      rw [hfl]
      generalize hA : (l.take k).map (flip i) = A at *
      cases c : decide (l[k].2.toNat = i) <;> simp [hk, happ])
    (by simp [F25_L0]) (by intro s h; cases h)
  unfold F25
  have hw' : whileM (F25_L0 l (1#32 <<< i)) ([], 0) = some (.brk (l.map (flip i))) := by
    have := hw
    simp only [List.take_zero, List.map_nil] at this
    exact this
  rw [hw']
  rfl

theorem law_ForkTurns (a0 : Int) (_ : i64 a0) (a1 : List Lk) (h : a1.length ≤ 9223372036854775807) (_ : ∀ x ∈ a1, i64 x.1 ∧ i64 x.2) (a2 : Int) (_ : i64 a2) : F6 a0 a1 a2 = some true := by
  obtain ⟨r, h1, h2, h3⟩ := check_same a0 a1 h
  unfold F6 F22 F19
  rw [h1, h2]
  by_cases c : r = 0
  · subst c
    obtain ⟨q1, q2, q3⟩ := h3 rfl
    obtain ⟨n, rfl⟩ : ∃ n : Nat, a0 = n := ⟨a0.toNat, by omega⟩
    obtain ⟨s, e1, e2, e3⟩ := low_same n (by omega) a1 h q3
    have h15 : a1.length ≤ 15 := by
      unfold F49 at h1
      cases c : (((decide ((n : Int) < 1)) || (decide ((n : Int) > 6))) || (decide ((a1.length : Int) > 15))) with
      | true => rw [c] at h1; simp at h1
      | false => simp only [Bool.or_eq_false_iff, decide_eq_false_iff_not] at c; omega
    have hb : ∀ x ∈ a1, 0 ≤ x.1 ∧ x.1 < 6 ∧ 0 ≤ x.2 ∧ x.2 < 6 := fun x hx => by
      have := q3 x hx
      simp only [offL, Bool.or_eq_false_iff, decide_eq_false_iff_not] at this
      omega
    cases d : ((decide (a2 < 0)) || (decide (a2 ≥ (n : Int)))) with
    | true => simp [e1, e2, d]
    | false =>
      have d' := d
      simp only [Bool.or_eq_false_iff, decide_eq_false_iff_not] at d'
      obtain ⟨i, rfl⟩ : ∃ i : Nat, a2 = i := ⟨a2.toNat, by omega⟩
      have f23 : F23 s (i : Int) = some (s.getLsbD i) := by have := f23_val (w := s) (j := (i : Int)) (by omega) (by omega); simpa using this
      simp only [e1, e2, f23, shc_nat, and_one, Option.bind_some, d, cond_false, u64_nat (show i ≤ 18446744073709551615 by omega)]
      cases hbit : s.getLsbD i with
      | false => simp [hbit]
      | true =>
        have hlow : ∀ x ∈ a1, x.1.toNat ≠ i := fun x hx => by
          have := e3 i (by omega)
          rw [hbit] at this
          have := List.all_eq_true.1 this.symm x hx
          simpa using this
        rw [turn_val a1 i (by omega) h15 hb, turned_val a1 i (by omega) h15 hb hlow]
        simp [hbit, twos_self (a1.map (flip i)) (by simp; omega)]
  · have c1 : (r != 0) = true := by simpa using c
    have c2 : (r == 0) = false := by simpa using c
    simp [c1, c2, c]
end Go.Proofs.Ytdjmlbjkendobaa
