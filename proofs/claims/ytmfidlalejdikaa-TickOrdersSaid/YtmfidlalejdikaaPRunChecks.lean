/-
  The plain law of RunChecks: the map's number of a message is how often it was sent and taken.
-/
import Derived.Test.YtmfidlalejdikaaAM
import Derived.Test.YtmfidlalejdikaaPw
import Derived.Test.YtmfidlalejdikaaBk6
namespace Go.Proofs.Ytmfidlalejdikaa
open Go Go.Bk
set_option linter.unusedVariables false
set_option linter.unusedSimpArgs false

abbrev Ev := Int × Int × Int
def isS (m : Int) (o : Ev) : Bool := (o.2.1 == 2) && (o.2.2 == m)
def isT (m : Int) (o : Ev) : Bool := (o.2.1 == 3) && (o.2.2 == m)
def sn (l : List Ev) (m : Int) : Nat := l.countP (isS m)
def tn (l : List Ev) (m : Int) : Nat := l.countP (isT m)
theorem sn_snoc (l : List Ev) (e : Ev) (m : Int) : sn (l ++ [e]) m = sn l m + cond (isS m e) 1 0 := by
  unfold sn; rw [List.countP_append, List.countP_singleton]; cases isS m e <;> rfl
theorem tn_snoc (l : List Ev) (e : Ev) (m : Int) : tn (l ++ [e]) m = tn l m + cond (isT m e) 1 0 := by
  unfold tn; rw [List.countP_append, List.countP_singleton]; cases isT m e <;> rfl
theorem sn_le (l : List Ev) (m : Int) : sn l m ≤ l.length := List.countP_le_length
theorem tn_le (l : List Ev) (m : Int) : tn l m ≤ l.length := List.countP_le_length
theorem take_snoc {l : List Ev} {k : Nat} {e : Ev} (h : l[k]? = some e) : l.take (k + 1) = l.take k ++ [e] := by rw [List.take_add_one, h]; rfl
theorem f16_l1 (x : Ev) (l : List Ev) (hl : l.length ≤ 30) : whileM (F16_L1 x l) (0, 0, 0) = some (.brk ((sn l x.2.2 : Int), (tn l x.2.2 : Int))) := by
  have hw := while_upto (body := F16_L1 x l) (fun k => ((sn (l.take k) x.2.2 : Int), (tn (l.take k) x.2.2 : Int), (k : Int))) l.length (c := .brk ((sn l x.2.2 : Int), (tn l x.2.2 : Int)))
    (fun k hk => by
      have hg : l[k]? = some l[k] := List.getElem?_eq_getElem hk
      have h1 := sn_le (l.take k) x.2.2
      have h2 := tn_le (l.take k) x.2.2
      have hlk : (l.take k).length ≤ 30 := by simp; omega
      have e1 : w64 ((sn (l.take k) x.2.2 : Int) + 1) = ((sn (l.take k) x.2.2 + 1 : Nat) : Int) := by rw [w64_of (by omega) (by omega)]; push_cast; rfl
      have e2 : w64 ((tn (l.take k) x.2.2 : Int) + 1) = ((tn (l.take k) x.2.2 + 1 : Nat) : Int) := by rw [w64_of (by omega) (by omega)]; push_cast; rfl
      rw [take_snoc hg, sn_snoc, tn_snoc]
      have es : ((l[k].2.1 == 2) && (l[k].2.2 == x.2.2)) = isS x.2.2 l[k] := rfl
      have et : ((l[k].2.1 == 3) && (l[k].2.2 == x.2.2)) = isT x.2.2 l[k] := rfl
      simp only [F16_L1, idx_some hg, Option.bind_some, es, et, e1, e2, w64_succ hk (by omega)]
      generalize sn (l.take k) x.2.2 = u
      generalize tn (l.take k) x.2.2 = v
      cases isS x.2.2 l[k] <;> cases isT x.2.2 l[k] <;> simp [hk])
    (by simp [F16_L1]) (by intro s h; cases h)
  have := hw
  simp only [List.take_zero] at this
  exact this
def Inv (l : List Ev) (y : List (Int × Int)) : Prop := ∀ m, mget y m = ((sn l m + tn l m : Nat) : Int) ∧ ((sn l m = 0 ∧ tn l m = 0) ∨ (sn l m = 1 ∧ tn l m = 0) ∨ (sn l m = 1 ∧ tn l m = 1))
theorem both (n : Int) (l : List Ev) (hl : l.length ≤ 30) : ∀ m k y, k + m = l.length → Inv (l.take k) y →
    ∃ c : Option Int, whileM (F16_L0 n l) (k : Int) = some (found () c) ∧ ((c = none ∧ ∃ y', whileM (F15_L0 n l) (y, (k : Int)) = some (.brk y')) ∨ ∃ r, c = some r ∧ whileM (F15_L0 n l) (y, (k : Int)) = some (.ret r)) := by
  intro m
  induction m with
  | zero =>
    intro k y hk hI
    have hkl : k = l.length := by omega
    subst hkl
    exact ⟨none, whileM_brk (by simp [F16_L0]), .inl ⟨rfl, y, whileM_brk (by simp [F15_L0])⟩⟩
  | succ m ih =>
    intro k y hk hI
    have hlt : k < l.length := by omega
    obtain ⟨e, hg⟩ : ∃ e, l[k]? = some e := ⟨_, List.getElem?_eq_getElem hlt⟩
    have hdk : decide ((k : Int) < (l.length : Int)) = true := by simp; omega
    have hw := w64_succ hlt (show l.length ≤ 9223372036854775807 by omega)
    cases c1 : ((decide (e.1 < 0)) || (decide (e.1 ≥ n))) with
    | true => exact ⟨some 2, whileM_ret (by simp only [F16_L0, idx_some hg, hdk, c1, Option.bind_some, cond_true]), .inr ⟨2, rfl, whileM_ret (by simp only [F15_L0, idx_some hg, hdk, c1, Option.bind_some, cond_true])⟩⟩
    | false =>
      cases c2 : ((decide (e.2.1 < 1)) || (decide (e.2.1 > 3))) with
      | true => exact ⟨some 6, whileM_ret (by simp only [F16_L0, idx_some hg, hdk, c1, c2, Option.bind_some, cond_true, cond_false]), .inr ⟨6, rfl, whileM_ret (by simp only [F15_L0, idx_some hg, hdk, c1, c2, Option.bind_some, cond_true, cond_false])⟩⟩
      | false =>
        cases c3 : (e.2.1 == 1) with
        | true =>
          have hI' : Inv (l.take (k + 1)) y := fun j => by
            have h21 : e.2.1 = 1 := by simpa using c3
            rw [take_snoc hg, sn_snoc, tn_snoc]
            have z1 : isS j e = false := by simp [isS, h21]
            have z2 : isT j e = false := by simp [isT, h21]
            rw [z1, z2]
            exact hI j
          have n16 : F16_L0 n l (k : Int) = some (.nxt ((k + 1 : Nat) : Int)) := by simp only [F16_L0, idx_some hg, hdk, c1, c2, c3, Option.bind_some, cond_true, cond_false, hw]
          have n15 : F15_L0 n l (y, (k : Int)) = some (.nxt (y, ((k + 1 : Nat) : Int))) := by simp only [F15_L0, idx_some hg, hdk, c1, c2, c3, Option.bind_some, cond_true, cond_false, hw]
          rw [whileM_nxt n16, whileM_nxt n15]
          exact ih (k + 1) y (by omega) hI'
        | false =>
          cases c4 : ((decide (e.2.2 < 0)) || (decide (e.2.2 > 20))) with
          | true => exact ⟨some 4, whileM_ret (by simp only [F16_L0, idx_some hg, hdk, c1, c2, c3, c4, Option.bind_some, cond_true, cond_false]), .inr ⟨4, rfl, whileM_ret (by simp only [F15_L0, idx_some hg, hdk, c1, c2, c3, c4, Option.bind_some, cond_true, cond_false])⟩⟩
          | false =>
            have hL1 := f16_l1 e (l.take k) (by simp; omega)
            obtain ⟨hm, hcase⟩ := hI e.2.2
            have h23 : e.2.1 = 2 ∨ e.2.1 = 3 := by
              simp only [Bool.or_eq_false_iff, decide_eq_false_iff_not] at c2
              simp at c3
              omega
            have hk2 : w64 (e.2.1 - 2) = e.2.1 - 2 := w64_of (by omega) (by omega)
            have hsame : ((((e.2.1 == 2) && (decide ((sn (l.take k) e.2.2 : Int) > 0))) || ((e.2.1 == 3) && (((sn (l.take k) e.2.2 : Int) == 0) || (decide ((tn (l.take k) e.2.2 : Int) > 0)))))) = ((mget y e.2.2) != (w64 (e.2.1 - 2))) := by
              rw [hk2, hm, Bool.eq_iff_iff]
              simp only [Bool.or_eq_true, Bool.and_eq_true, beq_iff_eq, decide_eq_true_eq, bne_iff_ne, ne_eq]
              rcases h23 with h | h <;> rcases hcase with ⟨q1, q2⟩ | ⟨q1, q2⟩ | ⟨q1, q2⟩ <;> rw [h, q1, q2] <;> simp
            cases c5 : ((mget y e.2.2) != (w64 (e.2.1 - 2))) with
            | true =>
              exact ⟨some 3, whileM_ret (by simp only [F16_L0, idx_some hg, hdk, c1, c2, c3, c4, slI_take hlt, hL1, Ctl.on, hsame, c5, Option.bind_some, cond_true, cond_false]),
                .inr ⟨3, rfl, whileM_ret (by simp only [F15_L0, idx_some hg, hdk, c1, c2, c3, c4, c5, Option.bind_some, cond_true, cond_false])⟩⟩
            | false =>
              have hw1 : w64 (mget y e.2.2 + 1) = mget y e.2.2 + 1 := by rw [hm]; exact w64_of (by omega) (by omega)
              have n16 : F16_L0 n l (k : Int) = some (.nxt ((k + 1 : Nat) : Int)) := by
                simp only [F16_L0, idx_some hg, hdk, c1, c2, c3, c4, slI_take hlt, hL1, Ctl.on, hsame, c5, Option.bind_some, cond_true, cond_false, hw]
              have n15 : F15_L0 n l (y, (k : Int)) = some (.nxt (mset y e.2.2 (mget y e.2.2 + 1), ((k + 1 : Nat) : Int))) := by
                simp only [F15_L0, idx_some hg, hdk, c1, c2, c3, c4, c5, Option.bind_some, cond_true, cond_false, hw, hw1]
              rw [whileM_nxt n16, whileM_nxt n15]
              refine ih (k + 1) _ (by omega) fun j => ?_
              rw [mget_set, take_snoc hg, sn_snoc, tn_snoc]
              have hst : mget y e.2.2 = e.2.1 - 2 := by simpa [hk2] using c5
              by_cases hj : j = e.2.2
              · subst hj
                rw [if_pos rfl, hm]
                rw [hm] at hst
                rcases h23 with h | h
                · have z1 : isS e.2.2 e = true := by simp [isS, h]
                  have z2 : isT e.2.2 e = false := by simp [isT, h]
                  rw [z1, z2]
                  simp only [cond_true, cond_false]
                  rw [h] at hst
                  refine ⟨by push_cast; omega, ?_⟩
                  omega
                · have z1 : isS e.2.2 e = false := by simp [isS, h]
                  have z2 : isT e.2.2 e = true := by simp [isT, h]
                  rw [z1, z2]
                  simp only [cond_true, cond_false]
                  rw [h] at hst
                  refine ⟨by push_cast; omega, ?_⟩
                  omega
              · rw [if_neg hj]
                have z1 : isS j e = false := by simp [isS]; intro _ q; exact hj q.symm
                have z2 : isT j e = false := by simp [isT]; intro _ q; exact hj q.symm
                rw [z1, z2]
                exact hI j
theorem runCheck_same (n : Int) (l : List Ev) : ∃ r, F15 n l = some r ∧ F16 n l = some r := by
  unfold F15 F16
  cases c : (((decide (n < 1)) || (decide (n > 6))) || (decide ((l.length : Int) > 30))) with
  | true => exact ⟨1, rfl, rfl⟩
  | false =>
    simp only [Bool.or_eq_false_iff, decide_eq_false_iff_not] at c
    obtain ⟨o, h1, h2⟩ := both n l (by omega) l.length 0 [] (by omega) (fun m => by simp [sn, tn, mget, fnd])
    have h1' : whileM (F16_L0 n l) 0 = some (found () o) := h1
    rw [h1']
    rcases h2 with ⟨rfl, y', h2⟩ | ⟨r, rfl, h2⟩
    · have h2' : whileM (F15_L0 n l) (([] : List (Int × Int)), 0) = some (.brk y') := h2
      rw [h2']
      exact ⟨0, rfl, rfl⟩
    · have h2' : whileM (F15_L0 n l) (([] : List (Int × Int)), 0) = some (.ret r) := h2
      rw [h2']
      exact ⟨r, rfl, rfl⟩
theorem law_RunChecks (a0 : Int) (_ : i64 a0) (a1 : List Ev) (h : a1.length ≤ 9223372036854775807) (_ : ∀ x ∈ a1, i64 x.1 ∧ i64 x.2.1 ∧ i64 x.2.2) : F3 a0 a1 = some true := by
  obtain ⟨r, h1, h2⟩ := runCheck_same a0 a1
  simp [F3, h1, h2]
end Go.Proofs.Ytmfidlalejdikaa
