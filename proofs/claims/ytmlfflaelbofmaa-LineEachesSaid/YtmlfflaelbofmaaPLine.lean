/-
  The plain laws of LineEaches, LineTells, LineOrders: the models of line.Check and of the document's answer say the same.
-/
import Derived.Test.YtmlfflaelbofmaaLM
import Derived.Test.YtmlfflaelbofmaaPg
import Derived.Test.YtmlfflaelbofmaaBk6
namespace Go.Proofs.Ytmlfflaelbofmaa
open Go Go.Bk
set_option linter.unusedVariables false
set_option linter.unusedSimpArgs false

abbrev LOp := Int × Int × Int × Bool × Int
/-- Two deeds of one client at once. -/
def clash (a b : LOp) : Bool := (a.1 == b.1) && decide (a.2.2.1 > b.2.1) && decide (b.2.2.1 > a.2.1)

theorem f15_l0 (l : List LOp) (hl : l.length ≤ 9223372036854775807) : whileM (F15_L0 l) 0 = some (found () (scan (fun _ (e : LOp) => if e.2.2.1 ≤ e.2.1 then some 4 else none) l 0)) := by
  refine while_scan hl _ (fun k e h => ?_) (by simp [F15_L0])
  have hk := lt_of_get h
  by_cases c : e.2.2.1 ≤ e.2.1 <;> simp [F15_L0, idx_some h, hk, c, going]
theorem f16_l0 (l : List LOp) (hl : l.length ≤ 9223372036854775807) : whileM (F16_L0 l) 0 = some (found () (scan (fun _ (e : LOp) => if e.2.2.1 ≤ e.2.1 then some 4 else none) l 0)) := by
  refine while_scan hl _ (fun k e h => ?_) (by simp [F16_L0])
  have hk := lt_of_get h
  by_cases c : e.2.2.1 ≤ e.2.1 <;> simp [F16_L0, idx_some h, hk, c, going]
theorem f15_l2 (a : LOp) (l : List LOp) (hl : l.length ≤ 9223372036854775807) : whileM (F15_L2 a l) 0 = some (found () (scan (fun _ (b : LOp) => if clash a b = true then some 3 else none) l 0)) := by
  refine while_scan hl _ (fun k e h => ?_) (by simp [F15_L2])
  have hk := lt_of_get h
  have e1 : (((a.1 == e.1) && (decide (a.2.2.1 > e.2.1))) && (decide (e.2.2.1 > a.2.1))) = clash a e := rfl
  cases c : clash a e <;> simp only [F15_L2, idx_some h, e1, c, going, Option.bind_some, cond_true, cond_false] <;> simp [hk]
theorem f16_l2 (l : List LOp) (i : Int) (a : LOp) (hl : l.length ≤ 9223372036854775807) : whileM (F16_L2 l i a) 0 = some (found () (scan (fun k (b : LOp) => if i ≠ (k : Int) ∧ clash a b = true then some 3 else none) l 0)) := by
  refine while_scan hl _ (fun k e h => ?_) (by simp [F16_L2])
  have hk := lt_of_get h
  have e1 : ((((i != (k : Int)) && (a.1 == e.1)) && (!((decide (a.2.2.1 ≤ e.2.1)) || (decide (e.2.2.1 ≤ a.2.1)))))) = (decide (i ≠ (k : Int)) && clash a e) := by
    rw [Bool.eq_iff_iff]; simp [clash, and_assoc]
  by_cases c1 : i ≠ (k : Int) <;> cases c : clash a e <;> simp only [F16_L2, idx_some h, e1, c, c1, going, Option.bind_some] <;> simp [hk, c1]

/-- The answer of the second loop: both. -/
def three (o : Option Int) : Option (Ctl Int Unit Int) := some (found () o)
theorem f15_l1 (l : List LOp) (hl : l.length ≤ 9223372036854775807) : whileM (F15_L1 l) 0 = some (found () (scan (fun k (a : LOp) => scan (fun _ (b : LOp) => if clash a b = true then some 3 else none) (l.take k) 0) l 0)) := by
  refine while_scan hl _ (fun k e h => ?_) (by simp [F15_L1])
  have hk := lt_of_get h
  have hs : slI l 0 (k : Int) = some (l.take k) := by unfold slI; rw [if_pos ⟨by omega, by omega, by omega⟩]; simp
  have hb := f15_l2 e (l.take k) (by simp; omega)
  cases c : scan (fun _ (b : LOp) => if clash e b = true then some (3 : Int) else none) (l.take k) 0 <;> rw [c] at hb <;> simp [F15_L1, idx_some h, hk, hs, hb, going, found]
theorem f16_l1 (l : List LOp) (hl : l.length ≤ 9223372036854775807) : whileM (F16_L1 l) 0 = some (found () (scan (fun k (a : LOp) => scan (fun j (b : LOp) => if (k : Int) ≠ (j : Int) ∧ clash a b = true then some 3 else none) l 0) l 0)) := by
  refine while_scan hl _ (fun k e h => ?_) (by simp [F16_L1])
  have hk := lt_of_get h
  have hb := f16_l2 l k e hl
  cases c : scan (fun j (b : LOp) => if (k : Int) ≠ (j : Int) ∧ clash e b = true then some (3 : Int) else none) l 0 <;> rw [c] at hb <;> simp [F16_L1, idx_some h, hk, hb, going, found]

theorem clash_symm (a b : LOp) : clash a b = clash b a := by
  rw [Bool.eq_iff_iff]; simp [clash]; omega
theorem scans_same (l : List LOp) : scan (fun k (a : LOp) => scan (fun _ (b : LOp) => if clash a b = true then some (3 : Int) else none) (l.take k) 0) l 0 =
    scan (fun k (a : LOp) => scan (fun j (b : LOp) => if (k : Int) ≠ (j : Int) ∧ clash a b = true then some (3 : Int) else none) l 0) l 0 := by
  have h3 : ∀ (p : Prop) [Decidable p] (x : Int), (if p then some (3 : Int) else none) = some x → x = 3 := by intro p _ x h; split at h <;> simp_all
  have in1 : ∀ (k : Nat) (a : LOp) x, scan (fun _ (b : LOp) => if clash a b = true then some (3 : Int) else none) (l.take k) 0 = some x → x = 3 := fun k a x h => by
    obtain ⟨i, e, hi, he⟩ := scan_val h; exact h3 _ _ he
  have in2 : ∀ (k : Nat) (a : LOp) x, scan (fun j (b : LOp) => if (k : Int) ≠ (j : Int) ∧ clash a b = true then some (3 : Int) else none) l 0 = some x → x = 3 := fun k a x h => by
    obtain ⟨i, e, hi, he⟩ := scan_val h; exact h3 _ _ he
  refine scan_same in1 in2 ?_
  have some1 : ∀ (k : Nat) (a : LOp), scan (fun _ (b : LOp) => if clash a b = true then some (3 : Int) else none) (l.take k) 0 = some 3 ↔ ∃ j b, l[j]? = some b ∧ j < k ∧ clash a b = true := fun k a => by
    constructor
    · intro h
      obtain ⟨i, e, hi, he⟩ := scan_val h
      rw [List.getElem?_take] at hi
      split at hi
      · rename_i hik; exact ⟨i, e, hi, hik, by cases c : clash a e with | true => rfl | false => rw [c] at he; simp at he⟩
      · cases hi
    · rintro ⟨j, b, hj, hjk, hc⟩
      cases x : scan (fun _ (b : LOp) => if clash a b = true then some (3 : Int) else none) (l.take k) 0 with
      | some r => rw [in1 k a r x]
      | none => have := scan_none.1 x j b (by rw [List.getElem?_take, if_pos hjk, hj]); simp [hc] at this
  have some2 : ∀ (k : Nat) (a : LOp), scan (fun j (b : LOp) => if (k : Int) ≠ (j : Int) ∧ clash a b = true then some (3 : Int) else none) l 0 = some 3 ↔ ∃ j b, l[j]? = some b ∧ k ≠ j ∧ clash a b = true := fun k a => by
    constructor
    · intro h
      obtain ⟨i, e, hi, he⟩ := scan_val h
      by_cases c : (k : Int) ≠ ((0 + i : Nat) : Int) ∧ clash a e = true
      · exact ⟨i, e, hi, by omega, c.2⟩
      · rw [if_neg c] at he; cases he
    · rintro ⟨j, b, hj, hjk, hc⟩
      cases x : scan (fun j (b : LOp) => if (k : Int) ≠ (j : Int) ∧ clash a b = true then some (3 : Int) else none) l 0 with
      | some r => rw [in2 k a r x]
      | none =>
        have := scan_none.1 x j b hj
        rw [if_pos ⟨by omega, hc⟩] at this
        cases this
  simp only [Nat.zero_add, some1, some2]
  constructor
  · rintro ⟨i, e, hi, j, b, hj, hji, hc⟩; exact ⟨i, e, hi, j, b, hj, by omega, hc⟩
  · rintro ⟨i, e, hi, j, b, hj, hji, hc⟩
    rcases Nat.lt_or_gt_of_ne hji with h | h
    · exact ⟨j, b, hj, i, e, hi, h, by rw [clash_symm]; exact hc⟩
    · exact ⟨i, e, hi, j, b, hj, h, hc⟩

theorem check_same (l : List LOp) (hl : l.length ≤ 9223372036854775807) : F15 l = F16 l ∧ (F15 l).isSome := by
  simp only [F15, F16, f15_l0 l hl, f16_l0 l hl, f15_l1 l hl, f16_l1 l hl, scans_same l, Option.bind_some]
  cases scan (fun _ (e : LOp) => if e.2.2.1 ≤ e.2.1 then some (4 : Int) else none) l 0 <;>
    cases scan (fun k (a : LOp) => scan (fun j (b : LOp) => if (k : Int) ≠ (j : Int) ∧ clash a b = true then some (3 : Int) else none) l 0) l 0 <;>
    by_cases c : (l.length : Int) > 8 <;> simp [found, c]


/-! The search. -/
theorem whileM_none {σ β ρ : Type} {body : σ → Option (Ctl σ β ρ)} {s : σ} (h : body s = none) : whileM body s = none := by
  cases x : whileM body s with
  | none => rfl
  | some c =>
    obtain ⟨n, hn⟩ := whileM_iter.1 x
    cases n with
    | zero => simp [iterM] at hn
    | succ n => rw [iterM, h] at hn; cases hn
abbrev BhT := LOp → LOp → Bool
def gl (l : List LOp) (j : Nat) : LOp := l.getD j (0, 0, 0, false, 0)
theorem get_gl {l : List LOp} {j : Nat} (h : j < l.length) : l[j]? = some (gl l j) := by simp [gl, List.getD_eq_getElem?_getD, List.getElem?_eq_getElem h]
/-- The first of m numbers from k on of which something is said. -/
def fs {β : Type} (f : Nat → Option β) : Nat → Nat → Option β
  | 0, _ => none
  | m + 1, k => match f k with
    | some r => some r
    | none => fs f m (k + 1)
def nowOf (l : List LOp) (last : Int) : Int := if 0 ≤ last then (gl l last.toNat).2.2.2.2 else 0
/-- Must something stand ahead that is not done? -/
def W (l : List LOp) (bh : BhT) (s : W32) (i : Nat) : Bool := (List.range l.length).any (fun j => !s.getLsbD j && bh (gl l j) (gl l i))
def okk (l : List LOp) (bh : BhT) (s : W32) (last : Int) (i : Nat) : Bool := !s.getLsbD i && !W l bh s i && ((gl l i).2.2.2.1 || ((gl l i).2.2.2.2 == nowOf l last))
def lst (l : List LOp) (i : Nat) (last : Int) : Int := cond (gl l i).2.2.2.1 (i : Int) last
def S (l : List LOp) (bh : BhT) : Nat → W32 → Int → Option (List Nat)
  | 0, _, _ => some []
  | d + 1, s, last => fs (fun i => cond (okk l bh s last i) ((S l bh d (s ||| (1#32 <<< i)) (lst l i last)).map (i :: ·)) none) l.length 0
structure Inv (l : List LOp) (d : Nat) (s : W32) (last : Int) : Prop where
  lm : lim l.length s
  ct : cnt l.length s + d = l.length
  l0 : -1 ≤ last
  l1 : last < l.length
theorem countP_one (p : Nat → Bool) (i : Nat) (hp : p i = false) : ∀ n, (List.range n).countP (fun b => p b || decide (b = i)) = (List.range n).countP p + if i < n then 1 else 0
  | 0 => by simp
  | n + 1 => by
    rw [List.range_succ, List.countP_append, List.countP_append, countP_one p i hp n]
    by_cases c : n = i
    · subst c; simp [hp]
    · by_cases c2 : i < n
      · have : i < n + 1 := by omega
        simp [c, c2, this, List.countP_cons]; omega
      · have : ¬ i < n + 1 := by omega
        simp [c, c2, this, List.countP_cons]
theorem ones8 : ∀ n, n < 9 → ∀ b, b < 32 → ((1#32 <<< n) - 1#32).getLsbD b = decide (b < n) := by decide +kernel
theorem S_len {l : List LOp} {bh : BhT} : ∀ (d : Nat) (s : W32) (last : Int) (r : List Nat), S l bh d s last = some r → r.length = d
  | 0, s, last, r, h => by simp [S] at h; simp [← h]
  | d + 1, s, last, r, h => by
    have key : ∀ (m k : Nat), fs (fun i => cond (okk l bh s last i) ((S l bh d (s ||| (1#32 <<< i)) (lst l i last)).map (i :: ·)) none) m k = some r → r.length = d + 1 := by
      intro m
      induction m with
      | zero => intro k h; cases h
      | succ m ih =>
        intro k h
        rw [fs] at h
        cases c : okk l bh s last k with
        | false => simp only [c, cond_false] at h; exact ih _ h
        | true =>
          simp only [c, cond_true] at h
          cases x : S l bh d (s ||| (1#32 <<< k)) (lst l k last) with
          | none => simp only [x, Option.map_none] at h; exact ih _ h
          | some q =>
            simp only [x, Option.map_some, Option.some.injEq] at h
            rw [← h, List.length_cons, S_len d _ _ _ x]
    exact key _ _ h
section
variable {l : List LOp} {bh : BhT} (hN : l.length ≤ 8)
include hN
theorem bit_or {s : W32} {i b : Nat} (hi : i < l.length) : (s ||| (1#32 <<< i)).getLsbD b = (s.getLsbD b || decide (b = i)) := by
  rw [BitVec.getLsbD_or, bit_one (by omega)]
theorem Inv.next {d i : Nat} {s : W32} {last : Int} (I : Inv l (d + 1) s last) (hi : i < l.length) (hb : s.getLsbD i = false) : Inv l d (s ||| (1#32 <<< i)) (lst l i last) where
  lm := fun b h => by rw [bit_or hN hi] at h; rcases Bool.or_eq_true_iff.1 h with h | h; exact I.lm b h; have := of_decide_eq_true h; omega
  ct := by
    have := I.ct
    have e : cnt l.length (s ||| (1#32 <<< i)) = cnt l.length s + 1 := by
      unfold cnt
      have h : (fun b => (s ||| (1#32 <<< i)).getLsbD b) = (fun b => s.getLsbD b || decide (b = i)) := by funext b; exact bit_or hN hi
      rw [h, countP_one _ i hb, if_pos hi]
    omega
  l0 := by have := I.l0; unfold lst; cases (gl l i).2.2.2.1 <;> simp <;> omega
  l1 := by have := I.l1; unfold lst; cases (gl l i).2.2.2.1 <;> simp <;> omega
theorem full_iff {d : Nat} {s : W32} {last : Int} (I : Inv l d s last) : (s == ((1#32 <<< l.length) - 1#32)) = decide (d = 0) := by
  rw [Bool.eq_iff_iff, decide_eq_true_eq, beq_iff_eq]
  constructor
  · intro h
    have : cnt l.length s = l.length := by
      unfold cnt
      have : (List.range l.length).countP (fun b => s.getLsbD b) = (List.range l.length).length := List.countP_eq_length.2 fun b hb => by
        have hb' : b < l.length := by simpa using hb
        rw [h, ones8 _ (by omega) b (by omega)]; simpa using hb'
      simpa using this
    have := I.ct
    omega
  · intro h
    subst h
    apply BitVec.eq_of_getLsbD_eq
    intro b hb
    rw [ones8 _ (by omega) b hb]
    by_cases c : b < l.length
    · rw [cnt_full (n := l.length) (by have := I.ct; omega) b c]; simp [c]
    · cases x : s.getLsbD b with
      | true => exact absurd (I.lm b x) c
      | false => simp [c]

/-! The program. -/
theorem f70_val {f : LOp × LOp → Option Bool} (hf : ∀ a b, f (a, b) = some (bh a b)) (s : W32) (i : Nat) : F70 l f s (gl l i) = some (W l bh s i) := by
  have key : ∀ m k, k + m = l.length → whileM (F70_L0 l f s (gl l i)) (k : Int) = some (cond ((List.range' k m).any (fun j => !s.getLsbD j && bh (gl l j) (gl l i))) (.ret true) (.brk ())) := by
    intro m
    induction m with
    | zero =>
      intro k hk
      have hd : decide ((k : Int) < (l.length : Int)) = false := by rw [decide_eq_false_iff_not]; omega
      rw [whileM_brk (s' := ()) (by simp only [F70_L0, hd, cond_false])]
      simp
    | succ m ih =>
      intro k hk
      have hkl : k < l.length := by omega
      have hd : decide ((k : Int) < (l.length : Int)) = true := by rw [decide_eq_true_eq]; omega
      have hb : (((s >>> k) &&& (1#32)) == (0#32)) = !s.getLsbD k := by rw [and_one]; cases s.getLsbD k <;> rfl
      have hf' : f (((gl l k).1, (gl l k).2.1, (gl l k).2.2.1, (gl l k).2.2.2.1, (gl l k).2.2.2.2), ((gl l i).1, (gl l i).2.1, (gl l i).2.2.1, (gl l i).2.2.2.1, (gl l i).2.2.2.2)) = some (bh (gl l k) (gl l i)) := hf _ _
      rw [List.range'_succ, List.any_cons]
      cases c1 : s.getLsbD k with
      | true =>
        rw [whileM_nxt (s' := ((k + 1 : Nat) : Int)) (by simp only [F70_L0, hd, cond_true, idx_some (get_gl hkl), Option.bind_some, shc_nat, hb, c1, Bool.not_true, cond_false, w64_succ hkl (show l.length ≤ 9223372036854775807 by omega)]), ih (k + 1) (by omega)]
        simp
      | false =>
        cases c2 : bh (gl l k) (gl l i) with
        | true =>
          rw [whileM_ret (r := true) (by simp only [F70_L0, hd, cond_true, idx_some (get_gl hkl), Option.bind_some, shc_nat, hb, c1, Bool.not_false, hf', c2])]
          simp
        | false =>
          rw [whileM_nxt (s' := ((k + 1 : Nat) : Int)) (by simp only [F70_L0, hd, cond_true, idx_some (get_gl hkl), Option.bind_some, shc_nat, hb, c1, Bool.not_false, hf', c2, cond_false, w64_succ hkl (show l.length ≤ 9223372036854775807 by omega)]), ih (k + 1) (by omega)]
          simp
  have h := key l.length 0 (by omega)
  have h' : whileM (F70_L0 l f s (gl l i)) 0 = _ := h
  unfold F70
  rw [h', ← List.range_eq_range']
  unfold W
  cases (List.range l.length).any (fun j => !s.getLsbD j && bh (gl l j) (gl l i)) <;> rfl

abbrev Mp2 := List ((W32 × W32) × Bool)
def key (s : W32) (last : Int) : W32 × W32 := (s, BitVec.ofInt 32 (w64 (last + 1)))
theorem key_inj {a b : Int} (ha : -1 ≤ a) (ha1 : a < l.length) (hb : -1 ≤ b) (hb1 : b < l.length) (h : BitVec.ofInt 32 (w64 (a + 1)) = BitVec.ofInt 32 (w64 (b + 1))) : a = b := by
  rw [w64_of (by omega) (by omega), w64_of (by omega) (by omega)] at h
  have := congrArg BitVec.toNat h
  rw [BitVec.toNat_ofInt, BitVec.toNat_ofInt] at this
  omega
def Sound (l : List LOp) (bh : BhT) (m : Mp2) : Prop := ∀ d s last, Inv l d s last → mgetG false m (key s last) = true → S l bh d s last = none
def res (o : Option (List Nat)) : List Int × Bool := match o with
  | none => ([], false)
  | some r => (r.map (fun (n : Nat) => (n : Int)), true)
theorem sound_set {m : Mp2} (hm : Sound l bh m) {d : Nat} {s : W32} {last : Int} (I : Inv l d s last) (h : S l bh d s last = none) : Sound l bh (msetG m (key s last) true) := by
  intro d' s' last' I' h'
  rw [mgetG_set] at h'
  by_cases c : key s' last' = key s last
  · have c1 : s' = s := congrArg Prod.fst c
    have c2 := key_inj hN I'.l0 I'.l1 I.l0 I.l1 (congrArg Prod.snd c)
    subst c1; subst c2
    have : d' = d := by have := I.ct; have := I'.ct; omega
    subst this; exact h
  · rw [if_neg c] at h'; exact hm d' s' last' I' h'
theorem find_val {f : LOp × LOp → Option Bool} (hf : ∀ a b, f (a, b) = some (bh a b)) : ∀ (n d : Nat) (s : W32) (last : Int) (m : Mp2), Inv l d s last → Sound l bh m →
    (F64_R n l f m s last = none ∧ n ≤ d) ∨ ∃ m', Sound l bh m' ∧ F64_R n l f m s last = some ((res (S l bh d s last)).1, (res (S l bh d s last)).2, m')
  | 0, d, s, last, m, I, hm => .inl ⟨rfl, by omega⟩
  | n + 1, d, s, last, m, I, hm => by
    have hfull := full_iff hN I
    show (F64_B (F64_R n) l f m s last = none ∧ n + 1 ≤ d) ∨ ∃ m', Sound l bh m' ∧ F64_B (F64_R n) l f m s last = _
    cases d with
    | zero =>
      right
      refine ⟨m, hm, ?_⟩
      unfold F64_B
      simp only [shc_nat, Option.bind_some, hfull, decide_true, cond_true]
      rfl
    | succ d =>
      have hfull' : (s == ((1#32 <<< l.length) - 1#32)) = false := by rw [hfull]; simp
      cases hk : mgetG false m (s, BitVec.ofInt 32 (w64 (last + 1))) with
      | true =>
        right
        refine ⟨m, hm, ?_⟩
        rw [hm (d + 1) s last I hk]
        unfold F64_B
        simp only [shc_nat, Option.bind_some, hfull', hk, cond_true, cond_false]
        rfl
      | false =>
        have hnow : (cond ((decide (last ≥ 0))) (Option.bind (idx l last) fun x11 => some x11.2.2.2.2) (some 0)) = some (nowOf l last) := by
          have h1 := I.l0
          have h2 := I.l1
          by_cases c : 0 ≤ last
          · obtain ⟨j, rfl⟩ : ∃ j : Nat, last = j := ⟨last.toNat, by omega⟩
            have hd : decide ((j : Int) ≥ 0) = true := by rw [decide_eq_true_eq]; omega
            rw [hd, cond_true, idx_some (get_gl (by omega : j < l.length)), nowOf, if_pos c]; rfl
          · have hd : decide (last ≥ 0) = false := by rw [decide_eq_false_iff_not]; omega
            rw [hd, cond_false, nowOf, if_neg c]
        have loop : ∀ (r k : Nat) (m : Mp2), k + r = l.length → Sound l bh m →
            (whileM (F64_L0 (F64_R n) l f s last (nowOf l last)) (m, (k : Int)) = none ∧ n ≤ d) ∨ ∃ m', Sound l bh m' ∧ whileM (F64_L0 (F64_R n) l f s last (nowOf l last)) (m, (k : Int)) =
              some (match fs (fun i => cond (okk l bh s last i) ((S l bh d (s ||| (1#32 <<< i)) (lst l i last)).map (i :: ·)) none) r k with
                | none => .brk m'
                | some q => .ret (q.map (fun (n : Nat) => (n : Int)), true, m')) := by
          intro r
          induction r with
          | zero =>
            intro k m hk hm
            have hd : decide ((k : Int) < (l.length : Int)) = false := by rw [decide_eq_false_iff_not]; omega
            exact .inr ⟨m, hm, by rw [whileM_brk (s' := m) (by simp only [F64_L0, hd, cond_false])]; rfl⟩
          | succ r ih =>
            intro k m hk hm
            have hkl : k < l.length := by omega
            have hd : decide ((k : Int) < (l.length : Int)) = true := by rw [decide_eq_true_eq]; omega
            have hb : (((s >>> k) &&& (1#32)) == (1#32)) = s.getLsbD k := by rw [and_one]; cases s.getLsbD k <;> rfl
            have h70 : F70 l f s ((gl l k).1, (gl l k).2.1, (gl l k).2.2.1, (gl l k).2.2.2.1, (gl l k).2.2.2.2) = some (W l bh s k) := f70_val hN hf s k
            have hsucc := w64_succ hkl (show l.length ≤ 9223372036854775807 by omega)
            have e28 : (cond (s.getLsbD k) (some true) (Option.bind (F70 l f s ((gl l k).1, (gl l k).2.1, (gl l k).2.2.1, (gl l k).2.2.2.1, (gl l k).2.2.2.2)) fun r30 => some r30)) = some (s.getLsbD k || W l bh s k) := by
              rw [h70]; cases s.getLsbD k <;> rfl
            have eok : ((s.getLsbD k || W l bh s k) || ((!(gl l k).2.2.2.1) && ((gl l k).2.2.2.2 != nowOf l last))) = !okk l bh s last k := by
              unfold okk bne; cases s.getLsbD k <;> cases W l bh s k <;> cases (gl l k).2.2.2.1 <;> cases ((gl l k).2.2.2.2 == nowOf l last) <;> rfl
            rw [fs]
            cases c : okk l bh s last k with
            | false =>
              have hs : F64_L0 (F64_R n) l f s last (nowOf l last) (m, (k : Int)) = some (.nxt (m, ((k + 1 : Nat) : Int))) := by
                simp only [F64_L0, hd, cond_true, idx_some (get_gl hkl), Option.bind_some, shc_nat, hb, e28, eok, c, Bool.not_false, hsucc]
              rw [whileM_nxt hs]
              exact ih (k + 1) m (by omega) hm
            | true =>
              have hbk : s.getLsbD k = false := by unfold okk at c; simp only [Bool.and_eq_true, Bool.not_eq_true'] at c; exact c.1.1
              have I2 := I.next hN hkl hbk
              have elst : (cond ((gl l k).2.2.2.1) (some (k : Int)) (some last)) = some (lst l k last) := by unfold lst; cases (gl l k).2.2.2.1 <;> rfl
              rcases find_val hf n d _ _ m I2 hm with ⟨h, hnd⟩ | ⟨m2, hm2, h⟩
              · left
                refine ⟨whileM_none ?_, hnd⟩
                simp only [F64_L0, hd, cond_true, idx_some (get_gl hkl), Option.bind_some, shc_nat, hb, e28, eok, c, Bool.not_true, cond_false, elst, h, Option.bind_none]
              · cases x : S l bh d (s ||| (1#32 <<< k)) (lst l k last) with
                | none =>
                  rw [x] at h
                  have hs : F64_L0 (F64_R n) l f s last (nowOf l last) (m, (k : Int)) = some (.nxt (m2, ((k + 1 : Nat) : Int))) := by
                    simp only [F64_L0, hd, cond_true, idx_some (get_gl hkl), Option.bind_some, shc_nat, hb, e28, eok, c, Bool.not_true, cond_false, elst, h, res, hsucc]
                  rw [whileM_nxt hs]
                  simp only [cond_true, Option.map_none]
                  exact ih (k + 1) m2 (by omega) hm2
                | some q =>
                  right
                  rw [x] at h
                  have hlen : q.length = d := S_len d _ _ _ x
                  have hct := I.ct
                  have ha : appl 8 ([(k : Int)] : List Int) (q.map (fun (n : Nat) => (n : Int))) = some ((k : Int) :: q.map (fun (n : Nat) => (n : Int))) := by
                    unfold appl; rw [if_pos]; rfl; simp; omega
                  refine ⟨m2, hm2, ?_⟩
                  rw [whileM_ret (r := ((k : Int) :: q.map (fun (n : Nat) => (n : Int)), true, m2)) (by simp only [F64_L0, hd, cond_true, idx_some (get_gl hkl), Option.bind_some, shc_nat, hb, e28, eok, c, Bool.not_true, cond_false, elst, h, res, ha])]
                  simp
        rcases loop l.length 0 m (by omega) hm with ⟨h, hnd⟩ | ⟨m', hm', h⟩
        · left
          refine ⟨?_, by omega⟩
          have h' : whileM (F64_L0 (F64_R n) l f s last (nowOf l last)) (m, 0) = none := h
          unfold F64_B
          simp only [shc_nat, Option.bind_some, hfull', hk, cond_false, hnow, h', Option.bind_none]
        · right
          have h' : whileM (F64_L0 (F64_R n) l f s last (nowOf l last)) (m, 0) = _ := h
          have eS : S l bh (d + 1) s last = fs (fun i => cond (okk l bh s last i) ((S l bh d (s ||| (1#32 <<< i)) (lst l i last)).map (i :: ·)) none) l.length 0 := rfl
          cases x : S l bh (d + 1) s last with
          | none =>
            rw [← eS, x] at h'
            refine ⟨_, sound_set hN hm' I x, ?_⟩
            unfold F64_B
            simp only [shc_nat, Option.bind_some, hfull', hk, cond_false, hnow, h', Ctl.on, res]
            rfl
          | some q =>
            rw [← eS, x] at h'
            refine ⟨m', hm', ?_⟩
            unfold F64_B
            simp only [shc_nat, Option.bind_some, hfull', hk, cond_false, hnow, h', Ctl.on, res]
theorem f64_val {f : LOp × LOp → Option Bool} (hf : ∀ a b, f (a, b) = some (bh a b)) : ∃ m', F64 l f [] 0#32 (-1) = some ((res (S l bh l.length 0#32 (-1))).1, (res (S l bh l.length 0#32 (-1))).2, m') := by
  have I : Inv l l.length 0#32 (-1) := ⟨fun b h => by simp at h, by simp [cnt], by omega, by omega⟩
  have hm : Sound l bh [] := fun d s last I h => by simp [mgetG, fndG] at h
  have h0 := find_val hN hf (l.length + 1) l.length 0#32 (-1) [] I hm
  rcases h0 with ⟨_, h⟩ | ⟨m', _, h⟩
  · omega
  · cases hF : F64 l f [] 0#32 (-1) with
    | none =>
      exfalso
      unfold F64 fixO at hF
      rw [dif_pos ⟨l.length + 1, _, h⟩] at hF
      cases hF
    | some q =>
      obtain ⟨n, hn⟩ := fixO_spec (f := fun n => F64_R n l f [] 0#32 (-1)) hF
      rcases find_val hN hf n l.length 0#32 (-1) [] I hm with ⟨h1, _⟩ | ⟨m2, _, h2⟩
      · have hn' : F64_R n l f [] 0#32 (-1) = some q := hn
        rw [h1] at hn'; cases hn'
      · have hn' : F64_R n l f [] 0#32 (-1) = some q := hn
        rw [h2] at hn'
        exact ⟨m2, hn'.symm⟩

/-! The document's answer. -/
def om (o : List Nat) : List Int := o.map (fun (n : Nat) => (n : Int))
omit hN in
theorem om_get {o : List Nat} {k : Nat} (h : k < o.length) : (om o)[k]? = some ((o[k] : Nat) : Int) := by simp [om, h]
omit hN in
theorem has_val (o : List Nat) (ho : o.length ≤ 8) (j : Nat) : F45 (om o) (j : Int) = some (decide (j ∈ o)) := by
  have key : ∀ m k, k + m = o.length → whileM (F45_L0 (om o) (j : Int)) (k : Int) = some (cond (decide (j ∈ o.drop k)) (.ret true) (.brk ())) := by
    intro m
    induction m with
    | zero =>
      intro k hk
      have hd : decide ((k : Int) < ((om o).length : Int)) = false := by rw [decide_eq_false_iff_not]; simp [om]; omega
      rw [whileM_brk (s' := ()) (by simp only [F45_L0, hd, cond_false]), List.drop_of_length_le (by omega)]
      simp
    | succ m ih =>
      intro k hk
      have hkl : k < o.length := by omega
      have hd : decide ((k : Int) < ((om o).length : Int)) = true := by rw [decide_eq_true_eq]; simp [om]; omega
      rw [List.drop_eq_getElem_cons hkl]
      by_cases c : j = o[k]
      · have hb : ((j : Int) == ((o[k] : Nat) : Int)) = true := by rw [beq_iff_eq, c]
        rw [whileM_ret (r := true) (by simp only [F45_L0, hd, cond_true, idx_some (om_get hkl), Option.bind_some, hb])]
        rw [decide_eq_true (List.mem_cons.2 (.inl c))]; rfl
      · have hb : ((j : Int) == ((o[k] : Nat) : Int)) = false := by rw [beq_eq_false_iff_ne]; omega
        rw [whileM_nxt (s' := ((k + 1 : Nat) : Int)) (by simp only [F45_L0, hd, cond_true, idx_some (om_get hkl), Option.bind_some, hb, cond_false, w64_succ hkl (show o.length ≤ 9223372036854775807 by omega)]), ih (k + 1) (by omega)]
        simp only [List.mem_cons, c, false_or]
  have h := key o.length 0 (by omega)
  have h' : whileM (F45_L0 (om o) (j : Int)) 0 = _ := h
  unfold F45
  rw [h', List.drop_zero]
  by_cases c : j ∈ o <;> simp [c, Ctl.on]
/-- Must b stand behind a? ended: does what has ended ahead count? -/
def Bh (ended : Bool) (a b : LOp) : Bool := (ended && decide (a.2.2.1 < b.2.1)) || ((a.1 == b.1) && decide (a.2.1 < b.2.1))
structure Rel (l : List LOp) (d : Nat) (o : List Nat) (s : W32) (last : Int) : Prop where
  inv : Inv l d s last
  len : o.length + d = l.length
  lt : ∀ i ∈ o, i < l.length
  bits : ∀ b, b < l.length → s.getLsbD b = decide (b ∈ o)
  lw : o.foldl (fun t i => lst l i t) (-1) = last
omit hN in
theorem now_val {o : List Nat} (ho : ∀ i ∈ o, i < l.length) (hlen : o.length ≤ 8) : whileM (F18_L0 l (om o)) (0, 0) = some (.brk (nowOf l (o.foldl (fun t i => lst l i t) (-1)))) := by
  have key : ∀ m k t, k + m = o.length → whileM (F18_L0 l (om o)) (nowOf l t, (k : Int)) = some (.brk (nowOf l ((o.drop k).foldl (fun t i => lst l i t) t))) := by
    intro m
    induction m with
    | zero =>
      intro k t hk
      have hd : decide ((k : Int) < ((om o).length : Int)) = false := by rw [decide_eq_false_iff_not]; simp [om]; omega
      rw [whileM_brk (s' := nowOf l t) (by simp only [F18_L0, hd, cond_false]), List.drop_of_length_le (by omega)]
      rfl
    | succ m ih =>
      intro k t hk
      have hkl : k < o.length := by omega
      have hd : decide ((k : Int) < ((om o).length : Int)) = true := by rw [decide_eq_true_eq]; simp [om]; omega
      have hin := ho o[k] (List.getElem_mem hkl)
      rw [List.drop_eq_getElem_cons hkl, List.foldl_cons]
      have hs : F18_L0 l (om o) (nowOf l t, (k : Int)) = some (.nxt (nowOf l (lst l o[k] t), ((k + 1 : Nat) : Int))) := by
        have e : nowOf l (lst l o[k] t) = cond (gl l o[k]).2.2.2.1 (gl l o[k]).2.2.2.2 (nowOf l t) := by
          unfold lst; cases (gl l o[k]).2.2.2.1
          · rfl
          · simp [nowOf]
        rw [e]
        simp only [F18_L0, hd, cond_true, idx_some (om_get hkl), idx_some (get_gl hin), Option.bind_some, w64_succ hkl (show o.length ≤ 9223372036854775807 by omega)]
        cases (gl l o[k]).2.2.2.1 <;> rfl
      rw [whileM_nxt hs, ih (k + 1) _ (by omega)]
  have h := key o.length 0 (-1) (by omega)
  have h' : whileM (F18_L0 l (om o)) (0, 0) = _ := h
  rw [h', List.drop_zero]
theorem all_val {o : List Nat} (hlen : o.length ≤ 8) (e : Bool) {i : Nat} (hi : i < l.length) (b : Bool) : whileM (F18_L2 l (om o) e (i : Int) (gl l i)) (b, 0) =
    some (.brk (b && !(List.range l.length).any (fun j => (decide (j ≠ i) && !decide (j ∈ o)) && Bh e (gl l j) (gl l i)))) := by
  have key : ∀ m k b, k + m = l.length → whileM (F18_L2 l (om o) e (i : Int) (gl l i)) (b, (k : Int)) = some (.brk (b && !(List.range' k m).any (fun j => (decide (j ≠ i) && !decide (j ∈ o)) && Bh e (gl l j) (gl l i)))) := by
    intro m
    induction m with
    | zero =>
      intro k b hk
      have hd : decide ((k : Int) < (l.length : Int)) = false := by rw [decide_eq_false_iff_not]; omega
      rw [whileM_brk (s' := b) (by simp only [F18_L2, hd, cond_false])]
      simp
    | succ m ih =>
      intro k b hk
      have hkl : k < l.length := by omega
      have hd : decide ((k : Int) < (l.length : Int)) = true := by rw [decide_eq_true_eq]; omega
      have hne : ((k : Int) != (i : Int)) = decide (k ≠ i) := by rw [Bool.eq_iff_iff, bne_iff_ne, decide_eq_true_eq]; omega
      have e1 : (cond (decide (k ≠ i)) (Option.bind (F45 (om o) (k : Int)) fun r51 => some (!r51)) (some false)) = some (decide (k ≠ i) && !decide (k ∈ o)) := by
        rw [has_val o hlen]; cases decide (k ≠ i) <;> rfl
      have eB : ((e && (decide ((gl l k).2.2.1 < (gl l i).2.1))) || (((gl l k).1 == (gl l i).1) && (decide ((gl l k).2.1 < (gl l i).2.1)))) = Bh e (gl l k) (gl l i) := rfl
      have hs : F18_L2 l (om o) e (i : Int) (gl l i) (b, (k : Int)) = some (.nxt (b && !((decide (k ≠ i) && !decide (k ∈ o)) && Bh e (gl l k) (gl l i)), ((k + 1 : Nat) : Int))) := by
        simp only [F18_L2, hd, cond_true, idx_some (get_gl hkl), Option.bind_some, hne, e1, eB, w64_succ hkl (show l.length ≤ 9223372036854775807 by omega)]
        cases ((decide (k ≠ i) && !decide (k ∈ o)) && Bh e (gl l k) (gl l i)) <;> simp
      rw [whileM_nxt hs, ih (k + 1) _ (by omega), List.range'_succ, List.any_cons, Bool.not_or, Bool.and_assoc]
  have h := key l.length 0 b (by omega)
  rw [← List.range_eq_range'] at h
  exact h
def resR (o : List Nat) (x : Option (List Nat)) : List Int × Bool := match x with
  | none => ([], false)
  | some r => (om (o ++ r), true)
theorem lined_val (e : Bool) (hc : ∀ i, i < l.length → (gl l i).2.1 < (gl l i).2.2.1) : ∀ (n d : Nat) (o : List Nat) (s : W32) (last : Int), Rel l d o s last →
    (F18_R n l (om o) e = none ∧ n ≤ d) ∨ F18_R n l (om o) e = some (resR o (S l (Bh e) d s last))
  | 0, d, o, s, last, R => .inl ⟨rfl, by omega⟩
  | n + 1, d, o, s, last, R => by
    show (F18_B (F18_R n) l (om o) e = none ∧ n + 1 ≤ d) ∨ F18_B (F18_R n) l (om o) e = _
    have hol : o.length ≤ 8 := by have := R.len; omega
    have hnow := now_val R.lt hol
    rw [R.lw] at hnow
    have homl : (om o).length = o.length := by simp [om]
    cases d with
    | zero =>
      right
      have : (((om o).length : Int) == (l.length : Int)) = true := by have := R.len; rw [beq_iff_eq, homl]; omega
      unfold F18_B
      simp only [hnow, Option.bind_some, Ctl.on, this, cond_true]
      simp [S, resR]
    | succ d =>
      have hne : (((om o).length : Int) == (l.length : Int)) = false := by have := R.len; rw [beq_eq_false_iff_ne, homl]; omega
      have loop : ∀ (r k : Nat), k + r = l.length →
          (whileM (F18_L1 (F18_R n) l (om o) e (nowOf l last)) (k : Int) = none ∧ n ≤ d) ∨ whileM (F18_L1 (F18_R n) l (om o) e (nowOf l last)) (k : Int) =
            some (match fs (fun i => cond (okk l (Bh e) s last i) ((S l (Bh e) d (s ||| (1#32 <<< i)) (lst l i last)).map (i :: ·)) none) r k with
              | none => .brk ()
              | some q => .ret (om (o ++ q), true)) := by
        intro r
        induction r with
        | zero =>
          intro k hk
          have hd : decide ((k : Int) < (l.length : Int)) = false := by rw [decide_eq_false_iff_not]; omega
          exact .inr (by rw [whileM_brk (s' := ()) (by simp only [F18_L1, hd, cond_false])]; rfl)
        | succ r ih =>
          intro k hk
          have hkl : k < l.length := by omega
          have hd : decide ((k : Int) < (l.length : Int)) = true := by rw [decide_eq_true_eq]; omega
          have hsucc := w64_succ hkl (show l.length ≤ 9223372036854775807 by omega)
          have hW : (List.range l.length).any (fun j => (decide (j ≠ k) && !decide (j ∈ o)) && Bh e (gl l j) (gl l k)) = W l (Bh e) s k := by
            unfold W
            rw [Bool.eq_iff_iff, List.any_eq_true, List.any_eq_true]
            constructor
            · rintro ⟨j, hj, h⟩
              have hj' : j < l.length := by simpa using hj
              refine ⟨j, hj, ?_⟩
              rw [R.bits j hj']
              simp only [Bool.and_eq_true] at h ⊢
              exact ⟨h.1.2, h.2⟩
            · rintro ⟨j, hj, h⟩
              have hj' : j < l.length := by simpa using hj
              refine ⟨j, hj, ?_⟩
              rw [R.bits j hj'] at h
              simp only [Bool.and_eq_true, decide_eq_true_eq] at h ⊢
              refine ⟨⟨fun c => ?_, h.1⟩, h.2⟩
              subst c
              have h2 := h.2
              have := hc j hj'
              unfold Bh at h2
              simp only [Bool.or_eq_true, Bool.and_eq_true, decide_eq_true_eq] at h2
              rcases h2 with h2 | h2 <;> omega
          have hall := all_val hN hol e hkl ((!decide (k ∈ o)) && ((gl l k).2.2.2.1 || ((gl l k).2.2.2.2 == nowOf l last)))
          rw [hW] at hall
          have eok : (((!decide (k ∈ o)) && ((gl l k).2.2.2.1 || ((gl l k).2.2.2.2 == nowOf l last))) && !W l (Bh e) s k) = okk l (Bh e) s last k := by
            unfold okk; rw [R.bits k hkl]; cases decide (k ∈ o) <;> cases W l (Bh e) s k <;> cases ((gl l k).2.2.2.1 || ((gl l k).2.2.2.2 == nowOf l last)) <;> rfl
          rw [eok] at hall
          have hall' : whileM (F18_L2 l (om o) e (k : Int) (gl l k)) ((!decide (k ∈ o)) && ((gl l k).2.2.2.1 || ((gl l k).2.2.2.2 == nowOf l last)), 0) = _ := hall
          rw [fs]
          cases c : okk l (Bh e) s last k with
          | false =>
            rw [c] at hall'
            have hs : F18_L1 (F18_R n) l (om o) e (nowOf l last) (k : Int) = some (.nxt ((k + 1 : Nat) : Int)) := by
              simp only [F18_L1, hd, cond_true, idx_some (get_gl hkl), Option.bind_some, has_val o hol, hall', Ctl.on, cond_false, hsucc]
            rw [whileM_nxt hs]
            exact ih (k + 1) (by omega)
          | true =>
            rw [c] at hall'
            have hbk : s.getLsbD k = false := by unfold okk at c; simp only [Bool.and_eq_true, Bool.not_eq_true'] at c; exact c.1.1
            have hlen := R.len
            have R2 : Rel l d (o ++ [k]) (s ||| (1#32 <<< k)) (lst l k last) := ⟨R.inv.next hN hkl hbk, by simp; omega, fun i hi => by
              rcases List.mem_append.1 hi with hi | hi
              · exact R.lt i hi
              · have : i = k := by simpa using hi
                omega, fun b hb => by rw [bit_or hN hkl, R.bits b hb]; by_cases c1 : b ∈ o <;> by_cases c2 : b = k <;> simp [c1, c2], by rw [List.foldl_append, R.lw]; rfl⟩
            have ha1 : appl 8 ([] : List Int) (om o) = some (om o) := by unfold appl; rw [if_pos]; rfl; simp [homl]; omega
            have ha2 : appl 8 (om o) ([(k : Int)] : List Int) = some (om (o ++ [k])) := by unfold appl; rw [if_pos]; simp [om]; simp [homl]; omega
            rcases lined_val e hc n d _ _ _ R2 with ⟨h, hnd⟩ | h
            · left
              refine ⟨whileM_none ?_, hnd⟩
              simp only [F18_L1, hd, cond_true, idx_some (get_gl hkl), Option.bind_some, has_val o hol, hall', Ctl.on, ha1, ha2, h, Option.bind_none]
            · cases x : S l (Bh e) d (s ||| (1#32 <<< k)) (lst l k last) with
              | none =>
                rw [x] at h
                have hs : F18_L1 (F18_R n) l (om o) e (nowOf l last) (k : Int) = some (.nxt ((k + 1 : Nat) : Int)) := by
                  simp only [F18_L1, hd, cond_true, idx_some (get_gl hkl), Option.bind_some, has_val o hol, hall', Ctl.on, ha1, ha2, h, resR, cond_false, hsucc]
                rw [whileM_nxt hs]
                simp only [cond_true, Option.map_none]
                exact ih (k + 1) (by omega)
              | some q =>
                right
                rw [x] at h
                rw [whileM_ret (r := (om (o ++ [k] ++ q), true)) (by simp only [F18_L1, hd, cond_true, idx_some (get_gl hkl), Option.bind_some, has_val o hol, hall', Ctl.on, ha1, ha2, h, resR])]
                simp
      rcases loop l.length 0 (by omega) with ⟨h, hnd⟩ | h
      · left
        refine ⟨?_, by omega⟩
        have h' : whileM (F18_L1 (F18_R n) l (om o) e (nowOf l last)) 0 = none := h
        unfold F18_B
        simp only [hnow, Option.bind_some, Ctl.on, hne, cond_false, h', Option.bind_none]
      · right
        have h' : whileM (F18_L1 (F18_R n) l (om o) e (nowOf l last)) 0 = _ := h
        have eS : S l (Bh e) (d + 1) s last = fs (fun i => cond (okk l (Bh e) s last i) ((S l (Bh e) d (s ||| (1#32 <<< i)) (lst l i last)).map (i :: ·)) none) l.length 0 := rfl
        rw [← eS] at h'
        unfold F18_B
        simp only [hnow, Option.bind_some, Ctl.on, hne, cond_false, h']
        cases S l (Bh e) (d + 1) s last <;> rfl
theorem f18_val (e : Bool) (hc : ∀ i, i < l.length → (gl l i).2.1 < (gl l i).2.2.1) : F18 l [] e = some (res (S l (Bh e) l.length 0#32 (-1))) := by
  have R : Rel l l.length [] 0#32 (-1) := ⟨⟨fun b h => by simp at h, by simp [cnt], by omega, by omega⟩, by simp, by simp, fun b hb => by simp, rfl⟩
  have hr : resR [] (S l (Bh e) l.length 0#32 (-1)) = res (S l (Bh e) l.length 0#32 (-1)) := by cases S l (Bh e) l.length 0#32 (-1) <;> simp [resR, res, om]
  rw [← hr]
  refine fixO_of (f := fun n => F18_R n l [] e) (l.length + 1) ?_ ?_
  · rcases lined_val hN e hc (l.length + 1) l.length [] 0#32 (-1) R with ⟨_, h⟩ | h
    · omega
    · exact h
  · intro m q hq
    rcases lined_val hN e hc m l.length [] 0#32 (-1) R with ⟨h, _⟩ | h
    · have hq' : F18_R m l (om []) e = some q := hq
      rw [h] at hq'; cases hq'
    · have hq' : F18_R m l (om []) e = some q := hq
      rw [h] at hq'; exact (Option.some.inj hq').symm
end
theorem check_ok {l : List LOp} (hl : l.length ≤ 9223372036854775807) (h : F16 l = some 0) : l.length ≤ 8 ∧ ∀ i, i < l.length → (gl l i).2.1 < (gl l i).2.2.1 := by
  unfold F16 at h
  rw [f16_l0 l hl] at h
  cases c : decide ((l.length : Int) > 8) with
  | true => rw [c] at h; simp at h
  | false =>
    rw [c] at h
    simp only [decide_eq_false_iff_not] at c
    refine ⟨by omega, fun i hi => ?_⟩
    cases x : scan (fun _ (e : LOp) => if e.2.2.1 ≤ e.2.1 then some (4 : Int) else none) l 0 with
    | some r =>
      rw [x] at h
      obtain ⟨j, e, hj, he⟩ := scan_val x
      have : r = 4 := by split at he; exact (Option.some.inj he).symm; cases he
      subst this
      simp [found, Ctl.on] at h
    | none =>
      have := scan_none.1 x i _ (get_gl hi)
      split at this
      · cases this
      · omega
theorem law_LineEaches (a0 : List LOp) (h : a0.length ≤ 9223372036854775807) (_ : ∀ x ∈ a0, i64 x.1 ∧ i64 x.2.1 ∧ i64 x.2.2.1 ∧ True ∧ i64 x.2.2.2.2) : F4 a0 = some true := by
  obtain ⟨e, s⟩ := check_same a0 h
  obtain ⟨r, hr⟩ := Option.isSome_iff_exists.1 s
  unfold F4 F17
  by_cases c : r = 0
  · subst c
    obtain ⟨hN, hc⟩ := check_ok h (e ▸ hr)
    obtain ⟨m', hm⟩ := f64_val (l := a0) (bh := Bh false) hN (f := fun z => F44 z.1 z.2) (fun a b => by simp [F44, Bh])
    simp [← e, hr, F43, hm, f18_val hN false hc]
  · have hb : (r != 0) = true := by simpa using c
    simp [← e, hr, hb]
theorem law_LineTells (a0 : List LOp) (h : a0.length ≤ 9223372036854775807) (_ : ∀ x ∈ a0, i64 x.1 ∧ i64 x.2.1 ∧ i64 x.2.2.1 ∧ True ∧ i64 x.2.2.2.2) : F5 a0 = some true := by
  obtain ⟨e, s⟩ := check_same a0 h
  obtain ⟨r, hr⟩ := Option.isSome_iff_exists.1 s
  unfold F5 F19
  by_cases c : r = 0
  · subst c
    obtain ⟨hN, hc⟩ := check_ok h (e ▸ hr)
    obtain ⟨m', hm⟩ := f64_val (l := a0) (bh := Bh true) hN (f := fun z => F46 z.1 z.2) (fun a b => by
      simp only [F46, F47, F44, Bh, Option.bind_some]; cases decide (a.2.2.1 < b.2.1) <;> simp)
    simp [← e, hr, F43, hm, f18_val hN true hc]
  · have hb : (r != 0) = true := by simpa using c
    simp [← e, hr, hb]
theorem ints_self (l : List Int) (hl : l.length ≤ 9223372036854775807) : F21 l l = some true := by
  have h : whileM (F21_L0 l l) 0 = some (found () (scan (fun _ (_ : Int) => (none : Option Bool)) l 0)) := by
    refine while_scan hl _ (fun k e h => ?_) (by simp [F21_L0])
    have hk := lt_of_get h
    simp [F21_L0, idx_some h, hk, going]
  have hn : scan (fun _ (_ : Int) => (none : Option Bool)) l 0 = none := scan_none.2 fun _ _ _ => rfl
  unfold F21
  rw [h, hn]
  simp [found, Ctl.on]
theorem law_LineOrders (a0 : List LOp) (h : a0.length ≤ 9223372036854775807) (_ : ∀ x ∈ a0, i64 x.1 ∧ i64 x.2.1 ∧ i64 x.2.2.1 ∧ True ∧ i64 x.2.2.2.2) : F6 a0 = some true := by
  obtain ⟨e, s⟩ := check_same a0 h
  obtain ⟨r, hr⟩ := Option.isSome_iff_exists.1 s
  unfold F6 F20
  by_cases c : r = 0
  · subst c
    obtain ⟨hN, hc⟩ := check_ok h (e ▸ hr)
    obtain ⟨m', hm⟩ := f64_val (l := a0) (bh := Bh true) hN (f := fun z => F48 z.1 z.2) (fun a b => by
      simp only [F48, F47, F44, Bh, Option.bind_some]; cases decide (a.2.2.1 < b.2.1) <;> simp)
    cases x : S a0 (Bh true) a0.length 0#32 (-1) with
    | none => rw [x] at hm; simp [← e, hr, F43, hm, f18_val hN true hc, x, res]
    | some q =>
      rw [x] at hm
      have hq := S_len _ _ _ _ x
      have hi := ints_self (q.map (fun (n : Nat) => (n : Int))) (by simp; omega)
      simp [← e, hr, F43, hm, f18_val hN true hc, x, res, hi]
  · have hb : (r != 0) = true := by simpa using c
    simp [← e, hr, hb]
end Go.Proofs.Ytmlfflaelbofmaa
