/-
  The plain law of QuorumVotes.
-/
import Derived.Test.YtmlfflaelbofmaaPWait
import Derived.Test.YtmlfflaelbofmaaPw
namespace Go.Proofs.Ytmlfflaelbofmaa
open Go Go.Bk
set_option linter.unusedVariables false
set_option linter.unusedSimpArgs false
set_option linter.unusedSectionVars false

def badV (v : Int) : Bool := (decide (v < 0)) || (decide (v > 100))
theorem f58_any (l : List Int) (hl : l.length ≤ 9223372036854775807) : F58 l (fun z => F59 z) = some (l.any badV) := by
  have hw : whileM (F68_L0 l (fun z => F59 z)) 0 = some (found () (scan (fun k e => if badV e = true then some (k : Int) else none) l 0)) := by
    refine while_scan hl _ (fun k e h => ?_) (by simp [F68_L0])
    have hk := lt_of_get h
    have e59 : F59 e = some (badV e) := rfl
    cases c : badV e <;> simp only [F68_L0, idx_some h, e59, c, going, Option.bind_some] <;> simp [hk]
  unfold F58 F68
  rw [hw]
  cases x : scan (fun k e => if badV e = true then some (k : Int) else none) l 0 with
  | none =>
    have : l.any badV = false := by
      rw [List.any_eq_false]
      intro e he
      obtain ⟨i, hi⟩ := List.getElem?_of_mem he
      have := scan_none.1 x i e hi
      intro hc; rw [if_pos hc] at this; cases this
    rw [this]; simp [found]
  | some r =>
    obtain ⟨i, e, hi, he⟩ := scan_val x
    have hc : badV e = true := by
      cases c : badV e with
      | true => rfl
      | false => rw [c] at he; simp at he
    rw [if_pos hc] at he
    simp at he
    subst he
    have : l.any badV = true := List.any_eq_true.2 ⟨e, List.mem_of_getElem? hi, hc⟩
    rw [this]; simp [found]
theorem f13_l0 (l : List Int) (x : Int) (hl : l.length ≤ 9223372036854775807) : whileM (F13_L0 l) (x, 0) = some (.brk (cond (x == 0 && l.any badV) 4 x)) := by
  have := while_fold (xs := l) (body := F13_L0 l) (fun k t => (t, (k : Int))) (fun _ (v : Int) t => cond (t == 0 && badV v) 4 t) id x
    (fun k e t h => by
      have hk := lt_of_get h
      have eb : ((decide (e < 0)) || (decide (e > 100))) = badV e := rfl
      simp only [F13_L0, idx_some h, Option.bind_some, w64_succ hk hl, eb]
      cases (t == 0 && badV e) <;> simp [hk])
    (fun t => by simp [F13_L0])
  rw [foldl_zip (fun (v : Int) t => cond (t == 0 && badV v) 4 t)] at this
  have key : ∀ (l : List Int) (t : Int), l.foldl (fun t v => cond (t == 0 && badV v) 4 t) t = cond (t == 0 && l.any badV) 4 t := by
    intro l
    induction l with
    | nil => intro t; simp
    | cons v l ih =>
      intro t
      rw [List.foldl_cons, ih, List.any_cons]
      by_cases ht : t = 0
      · subst ht; cases badV v <;> simp
      · have : (t == 0) = false := by simpa using ht
        simp [this]
  rw [key] at this
  exact this

/-! Sums. -/
def vl (l : List Int) (k : Nat) : Int := l.getD k 0
theorem get_vl {l : List Int} {k : Nat} (h : k < l.length) : l[k]? = some (vl l k) := by simp [vl, List.getD_eq_getElem?_getD, h]
def sm (l : List Int) (s : W32) : Int := (List.range l.length).foldl (fun t k => cond (s.getLsbD k) (t + vl l k) t) 0
theorem and1 (s : W32) (k : Nat) : ((s >>> k) &&& 1#32) = cond (s.getLsbD k) 1#32 0#32 := by
  apply BitVec.eq_of_getLsbD_eq
  intro i hi
  rw [BitVec.getLsbD_and, BitVec.getLsbD_ushiftRight, BitVec.getLsbD_one]
  by_cases e : i = 0
  · subst e; cases c : s.getLsbD k <;> simp [c]
  · cases c : s.getLsbD k <;> simp [e, BitVec.getLsbD_one]
section
variable {l : List Int} (hn : l.length ≤ 6) (hv : ∀ k, k < l.length → 0 ≤ vl l k ∧ vl l k ≤ 100)
include hn hv
theorem sm_step {k : Nat} {t : Int} (s : W32) (hk : k < l.length) (ht : 0 ≤ t ∧ t ≤ 100 * k) : 0 ≤ cond (s.getLsbD k) (t + vl l k) t ∧ cond (s.getLsbD k) (t + vl l k) t ≤ 100 * ((k + 1 : Nat) : Int) := by
  have := hv k hk
  cases s.getLsbD k
  · simp only [cond_false]; omega
  · simp only [cond_true]; omega
theorem f60_val (s : W32) : F60 s l = some (sm l s) := by
  have h := while_foldI (body := F60_L0 s l) (fun k t => (t, (k : Int))) l.length (fun k t => cond (s.getLsbD k) (t + vl l k) t) id (fun k t => 0 ≤ t ∧ t ≤ 100 * (k : Int)) 0 (by simp)
    (fun k t hk hI => by
      refine ⟨?_, sm_step hn hv s hk hI⟩
      have hb := hv k hk
      simp only [F60_L0, idx_some (get_vl hk), Option.bind_some, shc_nat, and1, w64_succ hk (by omega)]
      cases c : s.getLsbD k
      · simp only [cond_false]
        have e1 : w64 (vl l k * ((0#32).toNat : Int)) = 0 := by simp; exact w64_of (by decide) (by decide)
        rw [e1, Int.add_zero, w64_of (by omega) (by omega)]
        simp [hk]
      · simp only [cond_true]
        have e1 : w64 (vl l k * ((1#32).toNat : Int)) = vl l k := by simp; exact w64_of (by omega) (by omega)
        rw [e1, w64_of (by omega) (by omega)]
        simp [hk])
    (fun t _ => by simp [F60_L0])
  unfold F60
  have h' : whileM (F60_L0 s l) (0, 0) = _ := h.1
  rw [h']
  rfl
theorem f40_l1 (s : W32) : whileM (F40_L1 l s) (0, 0) = some (.brk (sm l s)) := by
  have h := while_foldI (body := F40_L1 l s) (fun k t => (t, (k : Int))) l.length (fun k t => cond (s.getLsbD k) (t + vl l k) t) id (fun k t => 0 ≤ t ∧ t ≤ 100 * (k : Int)) 0 (by simp)
    (fun k t hk hI => by
      refine ⟨?_, sm_step hn hv s hk hI⟩
      have hb := hv k hk
      simp only [F40_L1, idx_some (get_vl hk), f29_val (show k < 32 by omega), Option.bind_some, w64_succ hk (by omega)]
      cases c : s.getLsbD k
      · simp [hk]
      · simp only [cond_true]
        rw [w64_of (by omega) (by omega)]
        simp [hk])
    (fun t _ => by simp [F40_L1])
  exact h.1
theorem sm_mono {s t : W32} (h : le s t) : sm l s ≤ sm l t := by
  have key : ∀ (ks : List Nat), (∀ k ∈ ks, k < l.length) → ∀ a b : Int, a ≤ b → ks.foldl (fun t k => cond (s.getLsbD k) (t + vl l k) t) a ≤ ks.foldl (fun u k => cond (t.getLsbD k) (u + vl l k) u) b := by
    intro ks
    induction ks with
    | nil => intro _ a b hab; exact hab
    | cons k ks ih =>
      intro hks a b hab
      rw [List.foldl_cons, List.foldl_cons]
      refine ih (fun j hj => hks j (List.mem_cons_of_mem k hj)) _ _ ?_
      have hb := hv k (hks k (by simp))
      cases c : s.getLsbD k with
      | true => rw [h k c]; simp only [cond_true]; omega
      | false => cases t.getLsbD k <;> simp only [cond_true, cond_false] <;> omega
  exact key _ (fun k hk => by simpa using hk) 0 0 (Int.le_refl _)

def least (l : List Int) (most : Int) (s : W32) : Bool := (List.range l.length).all (fun k => !s.getLsbD k || decide (sm l (s &&& ~~~(1#32 <<< k)) < most))
theorem f39_l1 (most : Int) (s : W32) : whileM (F39_L1 l most s) (true, 0) = some (.brk (least l most s)) := by
  have h := while_foldN (body := F39_L1 l most s) (fun k t => (t, (k : Int))) l.length (fun k t => t && (!s.getLsbD k || decide (sm l (s &&& ~~~(1#32 <<< k)) < most))) id true
    (fun k t hk => by
      simp only [F39_L1, shc_nat, f60_val hn hv, and1, Option.bind_some, w64_succ hk (by omega)]
      cases t <;> cases c : s.getLsbD k <;> simp [hk])
    (fun t => by simp [F39_L1])
  have key : ∀ (ks : List Nat) (t : Bool), ks.foldl (fun t k => t && (!s.getLsbD k || decide (sm l (s &&& ~~~(1#32 <<< k)) < most))) t = (t && ks.all (fun k => !s.getLsbD k || decide (sm l (s &&& ~~~(1#32 <<< k)) < most))) := by
    intro ks
    induction ks with
    | nil => intro t; simp
    | cons k ks ih => intro t; rw [List.foldl_cons, ih, List.all_cons, Bool.and_assoc]
  rw [key, Bool.true_and] at h
  exact h
omit hn hv in
theorem appl_word {t : List W32} {x : W32} (h : t.length ≤ 64) : appl 4 t [x] = some (t ++ [x]) := by unfold appl; rw [if_pos]; simp; omega
omit hn hv in
theorem pick_len {p : Bool} {t : List W32} {x : W32} {k : Nat} (h : t.length ≤ k) : (cond p (t ++ [x]) t).length ≤ k + 1 := by cases p <;> simp <;> omega
omit hn hv in
theorem fold_filter {α : Type} (p : α → Bool) : ∀ (xs t : List α), xs.foldl (fun t x => cond (p x) (t ++ [x]) t) t = t ++ xs.filter p
  | [], t => by simp
  | x :: xs, t => by rw [List.foldl_cons, fold_filter p xs]; cases c : p x <;> simp [c]
def ws (n : Nat) : List W32 := (List.range n).map (BitVec.ofNat 32)
omit hn hv in
theorem fold_ws (p : W32 → Bool) (n : Nat) : (List.range n).foldl (fun t k => cond (p (BitVec.ofNat 32 k)) (t ++ [BitVec.ofNat 32 k]) t) [] = (ws n).filter p := by
  have := fold_filter p (ws n) []
  rw [List.nil_append] at this
  rw [← this, ws, List.foldl_map]
theorem pow64 : 2 ^ l.length ≤ 64 := by
  have := Nat.pow_le_pow_right (n := 2) (by decide) hn
  omega
theorem f39_l0 (most : Int) : whileM (F39_L0 l most l.length) ([], 0#32) = some (.brk ((ws (2 ^ l.length)).filter (fun s => !decide (sm l s < most) && least l most s))) := by
  have h64 := pow64 hn hv
  have h := while_foldI (body := F39_L0 l most l.length) (fun k t => (t, BitVec.ofNat 32 k)) (2 ^ l.length) (fun k t => cond (!decide (sm l (BitVec.ofNat 32 k) < most) && least l most (BitVec.ofNat 32 k)) (t ++ [BitVec.ofNat 32 k]) t) id (fun k t => t.length ≤ k) [] (by simp)
    (fun k t hk hI => by
      refine ⟨?_, pick_len hI⟩
      simp only [F39_L0, f60_val hn hv, f39_l1 hn hv, Option.bind_some, lt_shl (show l.length < 7 by omega) (Nat.le_of_lt hk), ofNat_succ, appl_word (show t.length ≤ 64 by omega)]
      cases decide (sm l (BitVec.ofNat 32 k) < most) <;> cases least l most (BitVec.ofNat 32 k) <;> simp [hk])
    (fun t _ => by simp only [F39_L0, lt_shl (show l.length < 7 by omega) (Nat.le_refl _)]; simp)
  rw [← fold_ws]
  exact h.1
def enough (l : List Int) (most : Int) : List W32 := (ws (2 ^ l.length)).filter (fun s => decide (sm l s ≥ most))
theorem f40_l0 (most : Int) : whileM (F40_L0 l most) ([], 0#32) = some (.brk (enough l most)) := by
  have h64 := pow64 hn hv
  have h := while_foldI (body := F40_L0 l most) (fun k t => (t, BitVec.ofNat 32 k)) (2 ^ l.length) (fun k t => cond (decide (sm l (BitVec.ofNat 32 k) ≥ most)) (t ++ [BitVec.ofNat 32 k]) t) id (fun k t => t.length ≤ k) [] (by simp)
    (fun k t hk hI => by
      refine ⟨?_, pick_len hI⟩
      simp only [F40_L0, f40_l1 hn hv, Option.bind_some, Ctl.on, u64_nat (show l.length ≤ 18446744073709551615 by omega), lt_shl (show l.length < 7 by omega) (Nat.le_of_lt hk), ofNat_succ, appl_word (show t.length ≤ 64 by omega)]
      cases decide (sm l (BitVec.ofNat 32 k) ≥ most) <;> simp [hk])
    (fun t _ => by simp only [F40_L0, u64_nat (show l.length ≤ 18446744073709551615 by omega), lt_shl (show l.length < 7 by omega) (Nat.le_refl _)]; simp)
  unfold enough
  rw [← fold_ws]
  exact h.1
def least' (all : List W32) (s : W32) : Bool := all.all (fun x => (x == s) || ((x ||| s) != s))
omit hn hv in
theorem f40_l3 (all : List W32) (s : W32) (hl : all.length ≤ 64) : whileM (F40_L3 all s) (true, 0) = some (.brk (least' all s)) := by
  have := while_fold (xs := all) (body := F40_L3 all s) (fun k t => (t, (k : Int))) (fun _ (x : W32) t => t && ((x == s) || ((x ||| s) != s))) id true
    (fun k e t h => by
      have hk := lt_of_get h
      simp only [F40_L3, idx_some h, Option.bind_some, w64_succ hk (by omega)]
      simp [hk])
    (fun t => by simp [F40_L3])
  rw [foldl_zip (fun (x : W32) t => t && ((x == s) || ((x ||| s) != s)))] at this
  have key : ∀ (l : List W32) (t : Bool), l.foldl (fun t x => t && ((x == s) || ((x ||| s) != s))) t = (t && l.all (fun x => (x == s) || ((x ||| s) != s))) := by
    intro l
    induction l with
    | nil => intro t; simp
    | cons x l ih => intro t; rw [List.foldl_cons, ih, List.all_cons, Bool.and_assoc]
  rw [key, Bool.true_and] at this
  exact this
omit hn hv in
theorem f40_l2 (all : List W32) (hl : all.length ≤ 64) : whileM (F40_L2 all) ([], 0) = some (.brk (all.filter (least' all))) := by
  have h := while_foldI (body := F40_L2 all) (fun k t => (t, (k : Int))) all.length (fun k t => cond (least' all (all.getD k 0#32)) (t ++ [all.getD k 0#32]) t) id (fun k t => t.length ≤ k) [] (by simp)
    (fun k t hk hI => by
      refine ⟨?_, pick_len hI⟩
      have hg : all[k]? = some (all.getD k 0#32) := by simp [List.getD_eq_getElem?_getD, hk]
      simp only [F40_L2, idx_some hg, f40_l3 all _ hl, Option.bind_some, w64_succ hk (by omega), appl_word (show t.length ≤ 64 by omega)]
      cases least' all (all.getD k 0#32) <;> simp [hk])
    (fun t _ => by simp [F40_L2])
  have e : (List.range all.length).map (fun k => all.getD k 0#32) = all := by
    apply List.ext_getElem
    · simp
    · intro i h1 h2; simp [List.getD_eq_getElem?_getD, h2]
  have e2 := fold_filter (least' all) ((List.range all.length).map (fun k => all.getD k 0#32)) []
  rw [List.foldl_map, e, List.nil_append] at e2
  rw [← e2]
  exact h.1

theorem mem_ws {s : W32} : s ∈ ws (2 ^ l.length) ↔ lim l.length s := by
  have h64 := pow64 hn hv
  unfold ws
  rw [List.mem_map]
  constructor
  · rintro ⟨k, hk, rfl⟩ b hb
    rw [List.mem_range] at hk
    apply Classical.byContradiction
    intro hb'
    have hlt : k < 2 ^ b := Nat.lt_of_lt_of_le hk (Nat.pow_le_pow_right (n := 2) (by decide) (show l.length ≤ b by omega))
    rw [BitVec.getLsbD_ofNat, Nat.testBit_lt_two_pow hlt] at hb
    simp at hb
  · intro h
    exact ⟨s.toNat, by rw [List.mem_range]; exact lim_toNat h, by simp⟩
theorem least_same (most : Int) {s : W32} (hs : lim l.length s) (hq : sm l s ≥ most) : least l most s = least' (enough l most) s := by
  have hmem : ∀ y, y ∈ enough l most ↔ lim l.length y ∧ sm l y ≥ most := fun y => by
    unfold enough
    rw [List.mem_filter, mem_ws hn hv, decide_eq_true_eq]
  rw [Bool.eq_iff_iff]
  unfold least least'
  simp only [List.all_eq_true, List.mem_range, Bool.or_eq_true, Bool.not_eq_true', decide_eq_true_eq, beq_iff_eq, bne_iff_ne]
  have hcut : ∀ k, k < l.length → ∀ b, (s &&& ~~~(1#32 <<< k)).getLsbD b = (s.getLsbD b && decide (b ≠ k)) := fun k hk b => by
    rw [BitVec.getLsbD_and, BitVec.getLsbD_not, bit_one (by omega)]
    by_cases hb : b < 32
    · simp [hb]
    · have : s.getLsbD b = false := BitVec.getLsbD_of_ge s b (by omega)
      simp [this]
  constructor
  · intro h y hy
    obtain ⟨h1, h2⟩ := (hmem y).1 hy
    apply Classical.byContradiction
    intro hno
    have hne : y ≠ s := fun e => hno (.inl e)
    have hor : y ||| s = s := Classical.byContradiction fun e => hno (.inr e)
    have hle : le y s := fun b hb => by rw [← hor]; simp [hb]
    obtain ⟨i, hi1, hi2⟩ : ∃ i, s.getLsbD i = true ∧ y.getLsbD i = false := by
      apply Classical.byContradiction
      intro hno2
      apply hne
      refine le_antisymm hle fun b hb => ?_
      cases c : y.getLsbD b with
      | true => rfl
      | false => exact absurd ⟨b, hb, c⟩ hno2
    have hil := hs i hi1
    rcases h i hil with q | q
    · rw [hi1] at q; cases q
    · have : sm l y ≤ sm l (s &&& ~~~(1#32 <<< i)) := sm_mono hn hv fun b hb => by
        rw [hcut i hil, hle b hb]
        have : b ≠ i := fun e => by rw [e, hi2] at hb; cases hb
        simp [this]
      omega
  · intro h k hk
    cases c : s.getLsbD k with
    | false => exact .inl rfl
    | true =>
      right
      apply Classical.byContradiction
      intro hno
      have hlim : lim l.length (s &&& ~~~(1#32 <<< k)) := fun b hb => by
        rw [hcut k hk, Bool.and_eq_true] at hb; exact hs b hb.1
      rcases h _ ((hmem _).2 ⟨hlim, by omega⟩) with q | q
      · have := congrArg (fun w => w.getLsbD k) q
        simp only [hcut k hk, c] at this
        simp at this
      · apply q
        apply BitVec.eq_of_getLsbD_eq
        intro b _
        rw [BitVec.getLsbD_or, hcut k hk]
        cases s.getLsbD b <;> simp
theorem votes_same (most : Int) : (ws (2 ^ l.length)).filter (fun s => !decide (sm l s < most) && least l most s) = (enough l most).filter (least' (enough l most)) := by
  conv => rhs; unfold enough
  rw [List.filter_filter]
  apply List.filter_congr
  intro s hs
  have hlim := (mem_ws hn hv).1 hs
  have e : (ws (2 ^ l.length)).filter (fun s => decide (sm l s ≥ most)) = enough l most := rfl
  rw [e]
  by_cases hq : sm l s ≥ most
  · have h1 : decide (sm l s < most) = false := by simp; omega
    rw [least_same hn hv most hlim hq, h1, decide_eq_true hq]
    simp
  · have h1 : decide (sm l s < most) = true := by simp; omega
    have h2 : decide (sm l s ≥ most) = false := by simp; omega
    rw [h1, h2]
    simp
theorem enough_len (most : Int) : (enough l most).length ≤ 64 := by
  have h64 := pow64 hn hv
  unfold enough
  refine Nat.le_trans (List.length_filter_le _ _) ?_
  simp [ws]; exact h64
theorem f40_val (most : Int) : F40 l most = some ((enough l most).filter (least' (enough l most))) := by
  unfold F40
  rw [f40_l0 hn hv most]
  simp only [Option.bind_some, Ctl.on, f40_l2 _ (enough_len hn hv most)]
end
theorem words_self (l : List W32) (hl : l.length ≤ 9223372036854775807) : F41 l l = some true := by
  have h : whileM (F41_L0 l l) 0 = some (found () (scan (fun _ (_ : W32) => (none : Option Bool)) l 0)) := by
    refine while_scan hl _ (fun k e h => ?_) (by simp [F41_L0])
    have hk := lt_of_get h
    simp [F41_L0, idx_some h, hk, going]
  have hn : scan (fun _ (_ : W32) => (none : Option Bool)) l 0 = none := scan_none.2 fun _ _ _ => rfl
  unfold F41
  rw [h, hn]
  simp [found]

theorem law_QuorumVotes (a0 : List Int) (h : a0.length ≤ 9223372036854775807) (_ : ∀ x ∈ a0, i64 x) (a1 : Int) (_ : i64 a1) : F13 a0 a1 = some true := by
  unfold F13 F39
  simp only [f58_any a0 h, f13_l0 a0 _ h]
  cases c : ((decide ((a0.length : Int) < 1)) || (decide ((a0.length : Int) > 6))) with
  | true => simp [Ctl.on]
  | false =>
    cases hb : a0.any badV with
    | true => simp [Ctl.on]
    | false =>
      cases hm : decide (a1 < 1) with
      | true => simp [Ctl.on]
      | false =>
        simp only [Bool.or_eq_false_iff, decide_eq_false_iff_not] at c
        have hn : a0.length ≤ 6 := by omega
        have hv : ∀ k, k < a0.length → 0 ≤ vl a0 k ∧ vl a0 k ≤ 100 := fun k hk => by
          have := List.any_eq_false.1 hb (vl a0 k) (List.mem_of_getElem? (get_vl hk))
          simp [badV] at this
          exact this
        simp only [f39_l0 hn hv, votes_same hn hv, f40_val hn hv, shc_nat, Option.bind_some, Ctl.on, cond_false, Bool.or_self, Bool.and_false, Option.bind_some]
        have hlen : ((enough a0 a1).filter (least' (enough a0 a1))).length ≤ 9223372036854775807 := by
          have := enough_len hn hv a1
          have := List.length_filter_le (least' (enough a0 a1)) (enough a0 a1)
          omega
        generalize (enough a0 a1).filter (least' (enough a0 a1)) = R at *
        cases he : ((R.length : Int) == 0) <;> simp [he, words_self R hlen]
end Go.Proofs.Ytmlfflaelbofmaa
