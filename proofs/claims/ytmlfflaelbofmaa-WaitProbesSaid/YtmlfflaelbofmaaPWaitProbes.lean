/-
  The plain law of WaitProbes: who is reached, one by one.
-/
import Derived.Test.YtmlfflaelbofmaaPM
import Derived.Test.YtmlfflaelbofmaaPg
import Derived.Test.YtmlfflaelbofmaaBk6
namespace Go.Proofs.Ytmlfflaelbofmaa
open Go Go.Bk
set_option linter.unusedVariables false
set_option linter.unusedSimpArgs false
theorem f29_val {w : W32} {j : Nat} (hj : j < 32) : F29 w (j : Int) = some (w.getLsbD j) := by
  unfold F29
  rw [u64_nat (by omega), and_bit hj]
  have h1 : decide ((j : Int) ≥ 0) = true := by simp
  have h2 : decide ((j : Int) < 32) = true := by simp; omega
  rw [h1, h2]; simp
section
variable {l : List W32}
theorem waitCheck_same (hl : l.length ≤ 9223372036854775807) : F52 l = F23 l ∧ ∃ r, F23 l = some r ∧ (r = 0 → 1 ≤ l.length ∧ l.length ≤ 6 ∧ ∀ j, j < l.length → lim l.length (wd l j)) := by
  unfold F52 F23
  cases c : ((decide ((l.length : Int) < 1)) || (decide ((l.length : Int) > 6))) with
  | true => refine ⟨rfl, 1, rfl, by simp⟩
  | false =>
    simp only [Bool.or_eq_false_iff, decide_eq_false_iff_not] at c
    have hn : l.length < 32 := by omega
    have h1 : whileM (F52_L0 l) 0 = some (found () (cond (l.any (fun x => decide (1#32 <<< l.length ≤ x))) (some 4) none)) := by
      rw [← scan_any (k := 0)]
      refine while_scan hl _ (fun k e h => ?_) (by simp [F52_L0])
      have hk := lt_of_get h
      cases c : decide (1#32 <<< l.length ≤ e) <;> simp only [F52_L0, idx_some h, shc_nat, shr_ne hn, c, going, Option.bind_some] <;> simp_all
    have h2 : whileM (F23_L0 l) 0 = some (found () (cond (l.any (fun x => decide (1#32 <<< l.length ≤ x))) (some 4) none)) := by
      rw [← scan_any (k := 0)]
      refine while_scan hl _ (fun k e h => ?_) (by simp [F23_L0])
      have hk := lt_of_get h
      cases c : decide (1#32 <<< l.length ≤ e) <;> simp only [F23_L0, idx_some h, u64_nat (show l.length ≤ 18446744073709551615 by omega), c, going, Option.bind_some] <;> simp_all
    rw [h1, h2]
    cases d : l.any (fun x => decide (1#32 <<< l.length ≤ x)) with
    | true => exact ⟨rfl, 4, rfl, by simp⟩
    | false =>
      refine ⟨rfl, 0, rfl, fun _ => ⟨by omega, by omega, fun j hj b hb => ?_⟩⟩
      rw [List.any_eq_false] at d
      have := d (wd l j) (List.mem_of_getElem? (get_wd hj))
      simp only [decide_eq_true_eq, BitVec.le_def, one_shl hn] at this
      apply Classical.byContradiction
      intro hb'
      have hlt : (wd l j).toNat < 2 ^ b := Nat.lt_of_lt_of_le (by omega) (Nat.pow_le_pow_right (n := 2) (by decide) (show l.length ≤ b by omega))
      rw [BitVec.getLsbD, Nat.testBit_lt_two_pow hlt] at hb
      cases hb
theorem f28_val (hn : l.length ≤ 6) {i : Nat} (hi : i < l.length) : F28 l (i : Int) = some (R l i) := by
  have h1 : ∀ s, whileM (F28_L1 l) (s, 0) = some (.brk (pass l.length cR (wd l) s)) := fun s =>
    while_foldN (fun k t => (t, (k : Int))) l.length (fun k t => stp cR (wd l) t k) id s
      (fun k t hk => by
        simp only [F28_L1, f29_val (show k < 32 by omega), idx_some (get_wd hk), Option.bind_some, w64_succ hk (by omega)]
        unfold stp cR
        cases t.getLsbD k <;> simp [hk])
      (fun t => by simp [F28_L1])
  have h0 : ∀ s, whileM (F28_L0 l) (s, 0) = some (.brk (iter l.length cR (wd l) s)) := fun s =>
    while_foldN (fun k t => (t, (k : Int))) l.length (fun k t => pass l.length cR (wd l) t) id s
      (fun k t hk => by simp only [F28_L0, h1, Option.bind_some, w64_succ hk (by omega)]; simp [hk])
      (fun t => by simp [F28_L0])
  unfold F28
  rw [idx_some (get_wd hi)]
  simp only [Option.bind_some, h0]
  rfl

end

/-! How many bits. -/
def pc (w : W32) : Int := popB w.toNat
theorem f53_small : ∀ v, v < 64 → F53 (BitVec.ofNat 32 v) = some (popB v) := by decide +kernel
theorem popB_le (n : Nat) : 0 ≤ popB n ∧ popB n ≤ 8 := by
  unfold popB
  have := List.countP_le_length (p := fun i => n.testBit i) (l := List.range 8)
  simp only [List.length_range] at this
  omega
theorem cnt_small : ∀ v, v < 64 → ((((List.range 32).countP fun i => (BitVec.ofNat 32 v).getLsbD i) : Nat) : Int) = popB v := by decide +kernel
theorem f30_val (w : W32) : F30 w = some ((((List.range 32).countP fun i => w.getLsbD i) : Nat) : Int) := by
  have h := while_upto (body := F30_L0 w) (fun k => ((((List.range k).countP fun i => w.getLsbD i : Nat) : Int), (k : Int))) 32 (c := .brk ((((List.range 32).countP fun i => w.getLsbD i) : Nat) : Int))
    (fun k hk => by
      have hd : decide ((k : Int) < 32) = true := by rw [decide_eq_true_eq]; omega
      have hc := List.countP_le_length (p := fun i => w.getLsbD i) (l := List.range k)
      simp only [List.length_range] at hc
      have hs : w64 ((((List.range k).countP fun i => w.getLsbD i : Nat) : Int) + 1) = ((((List.range k).countP fun i => w.getLsbD i) + 1 : Nat) : Int) := by rw [w64_of (by omega) (by omega)]; push_cast; rfl
      simp only [F30_L0, hd, cond_true, f29_val hk, Option.bind_some, w64_succ hk (show 32 ≤ 9223372036854775807 by omega), hs]
      rw [List.range_succ, List.countP_append]
      cases c : w.getLsbD k <;> simp [c])
    (by simp [F30_L0]) (fun s => by simp)
  have h' : whileM (F30_L0 w) (0, 0) = _ := h
  unfold F30
  rw [h']; rfl
theorem lim_small {n : Nat} (hn : n ≤ 6) {w : W32} (h : lim n w) : w.toNat < 64 := by
  refine Classical.byContradiction fun q => ?_
  have : ∃ b, 6 ≤ b ∧ w.toNat.testBit b = true := by
    obtain ⟨b, hb, h2⟩ := Nat.exists_ge_and_testBit_of_ge_two_pow (n := 6) (x := w.toNat) (by omega)
    exact ⟨b, hb, h2⟩
  obtain ⟨b, hb, h2⟩ := this
  have := h b (by rw [BitVec.getLsbD]; exact h2)
  omega
theorem pops {n : Nat} (hn : n ≤ 6) {w : W32} (h : lim n w) : F53 w = some (pc w) ∧ F30 w = some (pc w) := by
  have hs := lim_small hn h
  have hw : w = BitVec.ofNat 32 w.toNat := by simp
  refine ⟨?_, ?_⟩
  · have := f53_small w.toNat hs
    rw [← hw] at this; exact this
  · have := cnt_small w.toNat hs
    rw [← hw] at this
    rw [f30_val, this]; rfl

section
variable {l : List W32} (hw : ∀ j, j < l.length → lim l.length (wd l j)) (hn : l.length ≤ 6)
/-! Those that are new. -/
def news (n : Nat) (w s : W32) (k : Nat) : List Nat := (List.range k).filter fun j => w.getLsbD j && !s.getLsbD j
def grown (w s : W32) (k : Nat) : W32 := s ||| (w &&& ((1#32 <<< k) - 1#32))
theorem grown_bit (w s : W32) {k : Nat} (hk : k < 7) (b : Nat) (hb : b < 32) : (grown w s k).getLsbD b = (s.getLsbD b || (w.getLsbD b && decide (b < k))) := by
  unfold grown; rw [BitVec.getLsbD_or, BitVec.getLsbD_and, ones_bit k hk b hb]
def ints (q : List Nat) : List Int := q.map fun j : Nat => (j : Int)
theorem appl_int {q : List Int} {x : Int} (h : q.length ≤ 100) : appl 8 q [x] = some (q ++ [x]) := by unfold appl; rw [if_pos]; simp; omega
include hn in
theorem inner (w s : W32) (q : List Nat) (hq : q.length ≤ 12) : whileM (F27_L1 l w) (ints q, s, 0) = some (.brk (ints (q ++ news l.length w s l.length), grown w s l.length)) := by
  have h := while_upto (body := F27_L1 l w) (fun k => (ints (q ++ news l.length w s k), grown w s k, (k : Int))) l.length (c := .brk (ints (q ++ news l.length w s l.length), grown w s l.length))
    (fun k hk => by
      have hd : decide ((k : Int) < (l.length : Int)) = true := by rw [decide_eq_true_eq]; omega
      have hbit : ((((w &&& ~~~(grown w s k)) >>> k) &&& (1#32)) == (1#32)) = (w.getLsbD k && !s.getLsbD k) := by
        have := and_one (w &&& ~~~(grown w s k)) k
        rw [this, BitVec.getLsbD_and, BitVec.getLsbD_not, grown_bit w s (by omega) k (by omega)]
        have : decide (k < 32) = true := by rw [decide_eq_true_eq]; omega
        rw [this]
        cases w.getLsbD k <;> cases s.getLsbD k <;> simp
      have hlen : (ints (q ++ news l.length w s k)).length ≤ 100 := by
        have := List.length_filter_le (fun j => w.getLsbD j && !s.getLsbD j) (List.range k)
        simp only [List.length_range] at this
        simp only [ints, news, List.length_map, List.length_append]; omega
      have hnext : grown w s (k + 1) = cond (w.getLsbD k && !s.getLsbD k) (grown w s k ||| (1#32 <<< k)) (grown w s k) := by
        apply BitVec.eq_of_getLsbD_eq
        intro b hb
        rw [grown_bit w s (by omega) b hb]
        by_cases e : b = k
        · subst e
          have h1 : decide (b < b + 1) = true := by simp
          have h2 : decide (b < b) = false := by simp
          cases c1 : w.getLsbD b <;> cases c2 : s.getLsbD b <;> simp [grown_bit w s (show b < 7 by omega) b hb, bit_one hb, c1, c2]
        · have h1 : decide (b < k + 1) = decide (b < k) := by rw [decide_eq_decide]; omega
          rw [h1]
          cases w.getLsbD k && !s.getLsbD k
          · simp only [cond_false]; rw [grown_bit w s (by omega) b hb]
          · simp only [cond_true]; rw [BitVec.getLsbD_or, grown_bit w s (by omega) b hb, bit_one (by omega)]; simp [e]
      simp only [F27_L1, hd, cond_true, shc_nat, Option.bind_some, hbit, appl_int hlen, w64_succ hk (show l.length ≤ 9223372036854775807 by omega), hnext]
      unfold news ints
      rw [List.range_succ, List.filter_append]
      cases c : (w.getLsbD k && !s.getLsbD k) <;> simp [c])
    (by simp [F27_L1]) (fun s => by simp)
  have h0 : grown w s 0 = s := by unfold grown; simp
  have h' : whileM (F27_L1 l w) (ints (q ++ news l.length w s 0), grown w s 0, ((0 : Nat) : Int)) = _ := h
  rw [h0] at h'
  simpa [news] using h'

/-! The search. -/
def sumP (l : List W32) (P : List Nat) : Int := (P.map fun p => pc (wd l p)).sum
theorem sumP_le (P : List Nat) : 0 ≤ sumP l P ∧ sumP l P ≤ 8 * (P.length : Int) := by
  induction P with
  | nil => simp [sumP]
  | cons x P ih =>
    have := popB_le (wd l x).toNat
    simp only [sumP, List.map_cons, List.sum_cons, List.length_cons] at ih ⊢
    unfold pc at *
    push_cast
    omega
theorem sumP_app (P : List Nat) (x : Nat) : sumP l (P ++ [x]) = sumP l P + pc (wd l x) := by simp [sumP]
structure Srch (l : List W32) (i : Nat) (P q : List Nat) (s : W32) : Prop where
  nod : (P ++ q).Nodup
  lt : ∀ x ∈ P ++ q, x < l.length
  bits : ∀ b, s.getLsbD b = true ↔ b ∈ P ++ q
  closed : ∀ p ∈ P, ∀ b, (wd l p).getLsbD b = true → b ∈ P ++ q
  reach : ∀ x ∈ P ++ q, x = i ∨ (R l i).getLsbD x = true
  start : i ∈ P ++ q
theorem nodup_small {P : List Nat} {n : Nat} (h : P.Nodup) (hl : ∀ x ∈ P, x < n) : P.length ≤ n := by
  have := nodup_len (q := List.range n) h (fun x hx => by simpa using hl x hx)
  simpa using this
include hw hn in
theorem srch_step {i : Nat} (hi : i < l.length) {P q : List Nat} {x : Nat} {s : W32} (h : Srch l i P (x :: q) s) : Srch l i (P ++ [x]) (q ++ news l.length (wd l x) s l.length) (grown (wd l x) s l.length) := by
  obtain ⟨nod, lt, bits, closed, reach, start⟩ := h
  have hx : x < l.length := lt x (by simp)
  have hmem : ∀ b, b ∈ news l.length (wd l x) s l.length ↔ ((wd l x).getLsbD b = true ∧ b ∉ P ++ x :: q) := fun b => by
    unfold news
    rw [List.mem_filter, List.mem_range, Bool.and_eq_true, Bool.not_eq_true']
    constructor
    · rintro ⟨_, h1, h2⟩
      exact ⟨h1, fun h3 => by rw [(bits b).2 h3] at h2; cases h2⟩
    · rintro ⟨h1, h2⟩
      refine ⟨hw x hx b h1, h1, ?_⟩
      cases c : s.getLsbD b with
      | false => rfl
      | true => exact (h2 ((bits b).1 c)).elim
  have hall : ∀ b, b ∈ P ++ [x] ++ (q ++ news l.length (wd l x) s l.length) ↔ (b ∈ P ++ x :: q ∨ b ∈ news l.length (wd l x) s l.length) := fun b => by
    generalize news l.length (wd l x) s l.length = nw
    simp only [List.mem_append, List.mem_cons, List.not_mem_nil, or_false]
    exact ⟨by rintro ((h | h) | (h | h)) <;> simp [h], by rintro ((h | h | h) | h) <;> simp [h]⟩
  refine ⟨?_, ?_, ?_, ?_, ?_, ?_⟩
  · have e : P ++ [x] ++ (q ++ news l.length (wd l x) s l.length) = (P ++ x :: q) ++ news l.length (wd l x) s l.length := by simp
    rw [e, List.nodup_append]
    refine ⟨nod, List.filter_sublist.nodup List.nodup_range, ?_⟩
    intro a ha b hb e
    subst e
    exact ((hmem a).1 hb).2 ha
  · intro y hy
    rcases (hall y).1 hy with h | h
    · exact lt y h
    · exact hw x hx y ((hmem y).1 h).1
  · intro b
    rw [hall, ← bits b, hmem b, ← bits b]
    by_cases hb : b < 32
    · rw [grown_bit _ _ (by omega) b hb]
      cases c1 : s.getLsbD b with
      | true => simp
      | false =>
        cases c2 : (wd l x).getLsbD b with
        | false => simp
        | true => simp [hw x hx b c2]
    · have h1 : ∀ u : W32, u.getLsbD b = false := fun u => BitVec.getLsbD_of_ge u b (by omega)
      simp [h1]
  · intro p hp b hb
    rw [hall]
    rw [List.mem_append] at hp
    rcases hp with hp | hp
    · exact .inl (closed p hp b hb)
    · simp at hp; subst hp
      by_cases c : b ∈ P ++ p :: q
      · exact .inl c
      · exact .inr ((hmem b).2 ⟨hb, c⟩)
  · intro y hy
    rcases (hall y).1 hy with h | h
    · exact reach y h
    · right
      have hb := ((hmem y).1 h).1
      rcases reach x (by simp) with e | e
      · rw [e] at hb; exact R_base y hb
      · exact R_step hw hi e y hb
  · exact (hall i).2 (.inl start)
include hw hn in
theorem search {i : Nat} (hi : i < l.length) : ∀ (m : Nat) (P q : List Nat) (s : W32), P.length + m = l.length → Srch l i P q s →
    ∃ P' : List Nat, P'.Nodup ∧ (∀ b, b ∈ P' ↔ b < l.length ∧ (b = i ∨ (R l i).getLsbD b = true)) ∧
      whileM (F27_L0 l (i : Int)) (ints q, sumP l P, P.any (fun p => (wd l p).getLsbD i), s) = some (.brk ([], sumP l P', P'.any (fun p => (wd l p).getLsbD i))) := by
  intro m
  have base : ∀ (P : List Nat) (s : W32), Srch l i P [] s → ∃ P' : List Nat, P'.Nodup ∧ (∀ b, b ∈ P' ↔ b < l.length ∧ (b = i ∨ (R l i).getLsbD b = true)) ∧
      whileM (F27_L0 l (i : Int)) (ints [], sumP l P, P.any (fun p => (wd l p).getLsbD i), s) = some (.brk ([], sumP l P', P'.any (fun p => (wd l p).getLsbD i))) := by
    intro P s h
    obtain ⟨nod, lt, bits, closed, reach, start⟩ := h
    simp only [List.append_nil] at nod lt closed reach start
    refine ⟨P, nod, fun b => ⟨fun hb => ⟨lt b hb, reach b hb⟩, ?_⟩, whileM_brk (by simp [F27_L0, ints])⟩
    rintro ⟨_, rfl | hb⟩
    · exact start
    · exact R_least hi (fun b => b ∈ P) (fun b h => closed i start b h) (fun j _ hj b h => closed j hj b h) b hb
  induction m with
  | zero =>
    intro P q s hm h
    cases q with
    | nil => exact base P s h
    | cons x q =>
      have := nodup_small h.nod h.lt
      simp at this; omega
  | succ m ih =>
    intro P q s hm h
    cases q with
    | nil => exact base P s h
    | cons x q =>
      have hlen := nodup_small h.nod h.lt
      simp only [List.length_append, List.length_cons] at hlen
      have hx : x < l.length := h.lt x (by simp)
      obtain ⟨P', n1, n2, e⟩ := ih (P ++ [x]) _ _ (by simp; omega) (srch_step hw hn hi h)
      refine ⟨P', n1, n2, ?_⟩
      rw [← e]
      refine whileM_nxt ?_
      have hd : decide (((ints (x :: q)).length : Int) > 0) = true := by rw [decide_eq_true_eq]; simp [ints]
      have h0 : idx (ints (x :: q)) 0 = some (x : Int) := rfl
      have hin := inner hn (wd l x) s (x :: q) (by simp; omega)
      have hsl : slI (ints ((x :: q) ++ news l.length (wd l x) s l.length)) 1 ((ints ((x :: q) ++ news l.length (wd l x) s l.length)).length : Int) = some (ints (q ++ news l.length (wd l x) s l.length)) := by
        unfold slI
        rw [if_pos ⟨by omega, by simp [ints]; omega, Int.le_refl _⟩, Int.toNat_natCast, List.take_length]
        rfl
      have hs := sumP_le (l := l) P
      have hp := popB_le (wd l x).toNat
      have hsum : w64 (sumP l P + pc (wd l x)) = sumP l (P ++ [x]) := by rw [sumP_app]; unfold pc; rw [w64_of (by omega) (by omega)]
      have hb : ((((wd l x) >>> i) &&& (1#32)) == (1#32)) = (wd l x).getLsbD i := by rw [and_one]; cases (wd l x).getLsbD i <;> rfl
      have hor : (cond (P.any fun p => (wd l p).getLsbD i) (some true) (Option.bind (shc (i : Int)) fun k37 => some ((((wd l x) >>> k37) &&& (1#32)) == (1#32)))) = some ((P ++ [x]).any fun p => (wd l p).getLsbD i) := by
        rw [shc_nat, Option.bind_some, hb, List.any_append]
        cases P.any fun p => (wd l p).getLsbD i <;> simp
      simp only [F27_L0, hd, cond_true, h0, idx_some (get_wd hx), (pops hn (hw x hx)).1, Option.bind_some, hor, hin, Ctl.on, hsl, hsum]
theorem sum_perm {P Q : List Nat} (h : P.Perm Q) : sumP l P = sumP l Q := by
  unfold sumP
  induction h with
  | nil => rfl
  | cons x _ ih => simp only [List.map_cons, List.sum_cons, ih]
  | swap x y _ => simp only [List.map_cons, List.sum_cons]; omega
  | trans _ _ h1 h2 => rw [h1, h2]
include hw hn in
theorem told {i : Nat} (hi : i < l.length) : ∃ P' : List Nat, P'.Nodup ∧ (∀ b, b ∈ P' ↔ b < l.length ∧ (b = i ∨ (R l i).getLsbD b = true)) ∧
    whileM (F27_L0 l (i : Int)) (([(i : Int)] : List Int), 0, false, ((1#32) <<< i)) = some (.brk ([], sumP l P', P'.any (fun p => (wd l p).getLsbD i))) := by
  refine search hw hn hi l.length [] [i] (1#32 <<< i) (by simp) ⟨by simp, by simpa using hi, fun b => ?_, fun p hp => by simp at hp, fun x hx => .inl (by simpa using hx), by simp⟩
  rw [bit_one (by omega)]; simp
include hw in
theorem back_iff {i : Nat} (hi : i < l.length) {P : List Nat} (hP : ∀ b, b ∈ P ↔ b < l.length ∧ (b = i ∨ (R l i).getLsbD b = true)) : (P.any fun p => (wd l p).getLsbD i) = (R l i).getLsbD i := by
  rw [Bool.eq_iff_iff, List.any_eq_true]
  constructor
  · rintro ⟨p, hp, hb⟩
    rcases ((hP p).1 hp).2 with e | e
    · subst e; exact R_base p hb
    · exact R_step hw hi e i hb
  · intro h
    have hiP : i ∈ P := (hP i).2 ⟨hi, .inl rfl⟩
    exact R_least hi (fun b => ∃ p ∈ P, (wd l p).getLsbD b = true) (fun b hb => ⟨i, hiP, hb⟩) (fun j hj ⟨p, hp, hb⟩ b hbb => by
      refine ⟨j, (hP j).2 ⟨hj, .inr ?_⟩, hbb⟩
      rcases ((hP p).1 hp).2 with e | e
      · subst e; exact R_base j hb
      · exact R_step hw hi e j hb) i h
/-- Those that the document counts. -/
def cnts (l : List W32) (i k : Nat) : List Nat := (List.range k).filter fun b => decide (b = i) || (R l i).getLsbD b
include hw hn in
theorem ref_sum {i : Nat} (hi : i < l.length) : whileM (F9_L0 l (i : Int) (R l i)) (0, 0) = some (.brk (sumP l (cnts l i l.length))) := by
  have h := while_upto (body := F9_L0 l (i : Int) (R l i)) (fun k => (sumP l (cnts l i k), (k : Int))) l.length (c := .brk (sumP l (cnts l i l.length)))
    (fun k hk => by
      have hd : decide ((k : Int) < (l.length : Int)) = true := by rw [decide_eq_true_eq]; omega
      have hbit : ((R l i) ||| ((1#32) <<< i)).getLsbD k = (decide (k = i) || (R l i).getLsbD k) := by
        rw [BitVec.getLsbD_or, bit_one (by omega), Bool.or_comm]
      have hu : (u64 (i : Int)).toNat = i := u64_nat (by omega)
      have hs := sumP_le (l := l) (cnts l i k)
      have hc := List.length_filter_le (fun b => decide (b = i) || (R l i).getLsbD b) (List.range k)
      simp only [List.length_range] at hc
      have hc' : (cnts l i k).length ≤ k := hc
      have hp := popB_le (wd l k).toNat
      have hsum : w64 (sumP l (cnts l i k) + pc (wd l k)) = sumP l (cnts l i k) + pc (wd l k) := by unfold pc; rw [w64_of (by omega) (by omega)]
      have hsucc : cnts l i (k + 1) = cond (decide (k = i) || (R l i).getLsbD k) (cnts l i k ++ [k]) (cnts l i k) := by
        unfold cnts
        rw [List.range_succ, List.filter_append]
        cases c : (decide (k = i) || (R l i).getLsbD k) <;> simp [c]
      simp only [F9_L0, hd, cond_true, hu, f29_val (show k < 32 by omega), hbit, Option.bind_some, idx_some (get_wd hk), (pops hn (hw k hk)).2, hsum, w64_succ hk (show l.length ≤ 9223372036854775807 by omega)]
      rw [hsucc]
      cases (decide (k = i) || (R l i).getLsbD k)
      · simp
      · simp only [cond_true, Option.bind_some, sumP_app])
    (by simp [F9_L0]) (fun s => by simp)
  exact h
end
theorem law_WaitProbes (a0 : List W32) (h : a0.length ≤ 9223372036854775807) (_ : ∀ x ∈ a0, True) (a1 : Int) (_ : i64 a1) : F9 a0 a1 = some true := by
  obtain ⟨e1, r, e2, hr⟩ := waitCheck_same h
  unfold F9 F27
  simp only [e1, e2, Option.bind_some]
  by_cases c : r = 0
  · subst c
    obtain ⟨q1, q2, q3⟩ := hr rfl
    cases d : ((decide (a1 < 0)) || (decide (a1 ≥ (a0.length : Int)))) with
    | true => rfl
    | false =>
      simp only [Bool.or_eq_false_iff, decide_eq_false_iff_not] at d
      obtain ⟨i, rfl⟩ : ∃ i : Nat, a1 = i := ⟨a1.toNat, by omega⟩
      have hi : i < a0.length := by omega
      obtain ⟨P, n1, n2, n3⟩ := told q3 q2 hi
      have hb := back_iff q3 hi n2
      have hperm : P.Perm (cnts a0 i a0.length) := (List.perm_ext_iff_of_nodup n1 (List.filter_sublist.nodup List.nodup_range)).2 fun b => by
        rw [n2, List.mem_filter, List.mem_range]; simp
      have hsum := sum_perm (l := a0) hperm
      simp only [bne_self_eq_false, cond_false, shc_nat, Option.bind_some, n3, Ctl.on, beq_self_eq_true, Bool.and_false, f28_val q2 hi, ref_sum q3 q2 hi, cond_true, f29_val (show i < 32 by omega), hb, hsum, Bool.and_self]
  · have e3 : (r != 0) = true := by simpa using c
    have e4 : (r == 0) = false := by simpa using c
    simp only [e3, e4, cond_true, Bool.false_and, cond_false, Option.bind_some, beq_self_eq_true, Bool.and_self, Bool.not_false]
end Go.Proofs.Ytmlfflaelbofmaa
