/-
  The plain law of TurnPlays.
-/
import Derived.Test.YthfkdepcnhhepaaSM
import Derived.Test.YthfkdepcnhhepaaPWays
namespace Go.Proofs.Ythfkdepcnhhepaa
open Go Go.Bk
set_option linter.unusedVariables false
set_option linter.unusedSimpArgs false
set_option linter.unusedSectionVars false

abbrev Mp := Int × Int → Option (List Int)
abbrev One := Int × Int × Bool × BitVec 32 × BitVec 32
abbrev d0 : One := (0, 0, false, 0, 0)
abbrev gi (l : List Int) (j : Nat) : Int := ge 0 l j
abbrev gb (l : List Bool) (j : Nat) : Bool := ge false l j
abbrev gl (l : List (List Int)) (j : Nat) : List Int := ge [] l j

/-! A word and a list of the same numbers. -/
theorem nodup_le : ∀ {l m : List Int}, l.Nodup → (∀ x ∈ l, x ∈ m) → l.length ≤ m.length := fun h s => nodup_len h s
structure Same (n : Nat) (w : BitVec 32) (l : List Int) : Prop where
  nd : l.Nodup
  low : ∀ b ∈ l, ∃ c : Nat, c < n ∧ b = (c : Int)
  bit : ∀ b, w.getLsbD b = true ↔ (b : Int) ∈ l
theorem Same.zero {n : Nat} : Same n 0#32 [] := ⟨List.nodup_nil, fun b h => (by cases h), fun b => by simp⟩
theorem Same.le {n : Nat} {w : BitVec 32} {l : List Int} (h : Same n w l) : l.length ≤ n := by
  have : l.length ≤ ((List.range n).map (fun i : Nat => (i : Int))).length := nodup_le h.nd fun x hx => by
    obtain ⟨c, hc, rfl⟩ := h.low x hx
    exact List.mem_map.2 ⟨c, List.mem_range.2 hc, rfl⟩
  simpa using this
theorem Same.new {n b : Nat} (hb : b < n) (hn : n ≤ 6) {w : BitVec 32} {l : List Int} (h : Same n w l) (hm : (b : Int) ∉ l) : Same n (w ||| (1#32 <<< b)) (l ++ [(b : Int)]) := by
  refine ⟨?_, ?_, ?_⟩
  · rw [List.nodup_append]
    exact ⟨h.nd, by simp, fun a ha c hc => by simp at hc; subst hc; exact fun e => hm (e ▸ ha)⟩
  · intro x hx
    rcases List.mem_append.1 hx with hx | hx
    · exact h.low x hx
    · simp at hx; exact ⟨b, hb, hx⟩
  · intro i
    rw [BitVec.getLsbD_or, bit_one (by omega), Bool.or_eq_true, h.bit i, List.mem_append, List.mem_singleton, decide_eq_true_eq]
    exact or_congr Iff.rfl (by omega)
/-- All others have given leave. -/
theorem Same.full {n i : Nat} (hi : i < n) (hn : n ≤ 6) {w : BitVec 32} {l : List Int} (h : Same n w l) (hm : (i : Int) ∉ l) : (((w ||| (1#32 <<< i)) == ((1#32 <<< n) - 1#32)) = true ↔ l.length = n - 1) ∧ (l.length = n - 1 → ∀ j : Nat, j < n → j ≠ i → (j : Int) ∈ l) := by
  have others : l.length ≤ n - 1 ∧ (l.length = n - 1 → ∀ j : Nat, j < n → j ≠ i → (j : Int) ∈ l) := by
    have hL : (((List.range n).filter (· != i)).map (fun j : Nat => (j : Int))).length = n - 1 := by
      rw [List.length_map]
      have : n = 1 ∨ n = 2 ∨ n = 3 ∨ n = 4 ∨ n = 5 ∨ n = 6 := by omega
      have hi6 : i = 0 ∨ i = 1 ∨ i = 2 ∨ i = 3 ∨ i = 4 ∨ i = 5 := by omega
      rcases this with rfl | rfl | rfl | rfl | rfl | rfl <;> rcases hi6 with rfl | rfl | rfl | rfl | rfl | rfl <;> first | rfl | (exfalso; omega)
    have hs : ∀ x ∈ l, x ∈ (((List.range n).filter (· != i)).map (fun j : Nat => (j : Int))) := fun x hx => by
      obtain ⟨c, hc, rfl⟩ := h.low x hx
      refine List.mem_map.2 ⟨c, List.mem_filter.2 ⟨List.mem_range.2 hc, ?_⟩, rfl⟩
      rw [bne_iff_ne]; rintro rfl; exact hm hx
    refine ⟨by rw [← hL]; exact nodup_le h.nd hs, fun e j hj hji => ?_⟩
    exact same_len h.nd hs (by rw [hL, e]; exact Nat.le_refl _) _ (List.mem_map.2 ⟨j, List.mem_filter.2 ⟨List.mem_range.2 hj, by simpa using hji⟩, rfl⟩)
  refine ⟨?_, others.2⟩
  rw [beq_iff_eq]
  constructor
  · intro e
    refine Nat.le_antisymm others.1 ?_
    have : (((List.range n).filter (· != i)).map (fun j : Nat => (j : Int))).length ≤ l.length := by
      refine nodup_le ?_ fun x hx => ?_
      · exact List.Pairwise.map _ (fun a b e q => e (by exact_mod_cast q)) ((List.filter_sublist).nodup List.nodup_range)
      · obtain ⟨j, hj, rfl⟩ := List.mem_map.1 hx
        obtain ⟨h1, h2⟩ := List.mem_filter.1 hj
        have hjn := List.mem_range.1 h1
        have e2 := congrArg (fun w => w.getLsbD j) e
        simp only [BitVec.getLsbD_or, bit_one (show i < 32 by omega)] at e2
        rw [ones_bit n (by omega) j (by omega), decide_eq_true hjn, decide_eq_false (by simpa using h2), Bool.or_false] at e2
        exact (h.bit j).1 e2
    have hL : (((List.range n).filter (· != i)).map (fun j : Nat => (j : Int))).length = n - 1 := by
      rw [List.length_map]
      have : n = 1 ∨ n = 2 ∨ n = 3 ∨ n = 4 ∨ n = 5 ∨ n = 6 := by omega
      have hi6 : i = 0 ∨ i = 1 ∨ i = 2 ∨ i = 3 ∨ i = 4 ∨ i = 5 := by omega
      rcases this with rfl | rfl | rfl | rfl | rfl | rfl <;> rcases hi6 with rfl | rfl | rfl | rfl | rfl | rfl <;> first | rfl | (exfalso; omega)
    omega
  · intro e
    apply BitVec.eq_of_getLsbD_eq
    intro b hb
    rw [BitVec.getLsbD_or, bit_one (by omega), ones_bit n (by omega) b hb, Bool.eq_iff_iff, Bool.or_eq_true, h.bit b, decide_eq_true_eq, decide_eq_true_eq]
    constructor
    · rintro (q | q)
      · obtain ⟨c, hc, q2⟩ := h.low _ q; omega
      · omega
    · intro q
      by_cases e2 : b = i
      · exact .inr e2
      · exact .inl (others.2 e b q e2)

/-! What is on the way. -/
def nz (l : List Int) : Nat := l.countP (· != 0)
def zz (l : List Int) : Nat := l.countP (· == 0)
theorem nz_app (l m : List Int) : nz (l ++ m) = nz l + nz m := List.countP_append
theorem zz_app (l m : List Int) : zz (l ++ m) = zz l + zz m := List.countP_append
theorem nz_cons (x : Int) (l : List Int) : nz (x :: l) = nz l + (if x = 0 then 0 else 1) := by
  unfold nz; rw [List.countP_cons]; by_cases e : x = 0 <;> simp [e]
theorem zz_cons (x : Int) (l : List Int) : zz (x :: l) = zz l + (if x = 0 then 1 else 0) := by
  unfold zz; rw [List.countP_cons]; by_cases e : x = 0 <;> simp [e]
theorem qs_sendW (i : Nat) (P : Nat → Bool) (x : Int) (way : List Lt) (c d : Nat) : ∀ n, qs (sendW i P x n way) (c : Int) (d : Int) = qs way (c : Int) (d : Int) ++ (if c = i ∧ d < n ∧ P d = true then [x] else [])
  | 0 => by simp [sendW]
  | n + 1 => by
    unfold sendW
    have ih := qs_sendW i P x way c d n
    by_cases hp : P n = true
    · rw [if_pos hp, qs_app, ih, List.append_assoc]
      congr 1
      by_cases e : d = n
      · subst e
        by_cases e2 : c = i
        · subst e2; simp [hp]
        · have : ¬ (i : Int) = (c : Int) := by omega
          simp [e2, this]
      · have h1 : ¬ ((i : Int) = (c : Int) ∧ (n : Int) = (d : Int)) := by omega
        rw [if_neg h1, List.append_nil]
        by_cases e2 : c = i ∧ d < n ∧ P d = true
        · rw [if_pos e2, if_pos ⟨e2.1, by omega, e2.2.2⟩]
        · rw [if_neg e2, if_neg (fun q => e2 ⟨q.1, by omega, q.2.2⟩)]
    · rw [if_neg hp, ih]
      congr 1
      by_cases e2 : c = i ∧ d < n ∧ P d = true
      · rw [if_pos e2, if_pos ⟨e2.1, by omega, e2.2.2⟩]
      · have : ¬ (c = i ∧ d < n + 1 ∧ P d = true) := fun q => e2 ⟨q.1, by
          have : d ≠ n := fun r => hp (r ▸ q.2.2)
          omega, q.2.2⟩
        rw [if_neg e2, if_neg this]

/-! What both hold. -/
structure R (n k : Nat) (i : Nat) (x : One) (C A : Int) (B : Bool) (H W : List Int) : Prop where
  c : x.1 = C
  a : x.2.1 = A
  b : x.2.2.1 = B
  h : Same n x.2.2.2.1 H
  hi : (i : Int) ∉ H
  w : ∀ b, x.2.2.2.2.getLsbD b = true ↔ (b : Int) ∈ W
  c0 : 0 ≤ C
  c1 : C ≤ (k : Int)
  a0 : 0 ≤ A
  a1 : A ≤ (k : Int)
  wl : W.length ≤ k
structure Inv (n k : Nat) (G : List One) (m : Mp) (C A : List Int) (B : List Bool) (H W : List (List Int)) (way : List Lt) : Prop where
  lg : G.length = n
  lc : C.length = n
  la : A.length = n
  lb : B.length = n
  lh : H.length = n
  lw : W.length = n
  r : ∀ i, i < n → R n k i (ge d0 G i) (gi C i) (gi A i) (gb B i) (gl H i) (gl W i)
  ways : WRel id m way
  few : way.length ≤ 6 * k
  val : ∀ i j : Nat, ∀ x ∈ qs way (i : Int) (j : Int), 0 ≤ x ∧ x ≤ (k : Int)
  un : ∀ i j, i < n → j < n → i ≠ j → nz (qs way (i : Int) (j : Int)) + (if (i : Int) ∈ gl W j then 1 else 0) + zz (qs way (j : Int) (i : Int)) + (if (j : Int) ∈ gl H i then 1 else 0) ≤ 1
  idle : ∀ i j, i < n → j < n → i ≠ j → gi A i = 0 → nz (qs way (i : Int) (j : Int)) = 0 ∧ (i : Int) ∉ gl W j ∧ zz (qs way (j : Int) (i : Int)) = 0
theorem R.up {n k i : Nat} {x : One} {C A : Int} {B : Bool} {H W : List Int} (h : R n k i x C A B H W) : R n (k + 1) i x C A B H W :=
  { h with c1 := by have := h.c1; push_cast; omega, a1 := by have := h.a1; push_cast; omega, wl := by have := h.wl; omega }
theorem defer_form (b : Bool) (a y : Int) (e : Bool) : (cond b (some true) (Option.bind (cond (decide (a > 0)) (Option.bind (cond (decide (a < y)) (some true) (some ((a == y) && e))) fun b35 => some b35) (some false)) fun b30 => some b30)) = some (b || (decide (a > 0) && (decide (a < y) || ((a == y) && e)))) := by
  cases b
  · by_cases h1 : a > 0
    · by_cases h2 : a < y
      · simp [h1, h2]
      · simp [h1, h2]
    · simp [h1]
  · simp
section
variable {n k : Nat} {G : List One} {m : Mp} {C A : List Int} {B : List Bool} {H W : List (List Int)} {way : List Lt}
theorem Inv.up (h : Inv n k G m C A B H W way) : Inv n (k + 1) G m C A B H W way :=
  { h with r := fun i hi => (h.r i hi).up, few := by have := h.few; omega, val := fun i j x hx => by have := h.val i j x hx; push_cast; omega }
theorem ge_self {α : Type} {d : α} {l : List α} {i : Nat} (hi : i < l.length) : l.set i (ge d l i) = l := set_ge hi rfl
/-- Who has all leaves is in. -/
theorem enter_both (h : Inv n k G m C A B H W way) (hn : n ≤ 6) {i : Nat} (hi : i < n) : ∃ G' A' B', F135 G (i : Int) = some G' ∧ F73 (i : Int) A H (n : Int) B = some (A', H, B') ∧ Inv n k G' m C A' B' H W way := by
  have hig : i < G.length := by rw [h.lg]; exact hi
  have hia : i < A.length := by rw [h.la]; exact hi
  have hib : i < B.length := by rw [h.lb]; exact hi
  have ig := idx_ge d0 hig
  have ia := idx_ge (0 : Int) hia
  have ib := idx_ge false hib
  have ih := idx_ge ([] : List Int) (l := H) (j := i) (by rw [h.lh]; exact hi)
  have r := h.r i hi
  have hw : w64 ((n : Int) - 1) = (n : Int) - 1 := w64i (by omega) (by omega)
  have hfull := r.h.full hi hn r.hi
  by_cases c1 : 0 < gi A i
  · have d1 : 0 < (ge d0 G i).2.1 := by rw [r.a]; exact c1
    by_cases c2 : (gl H i).length = n - 1
    · have e2 := hfull.1.2 c2
      have e3 : (((gl H i).length : Int) == (n : Int) - 1) = true := by rw [beq_iff_eq]; omega
      refine ⟨G.set i ((ge d0 G i).1, 0, true, (ge d0 G i).2.2.2.1, (ge d0 G i).2.2.2.2), A.set i 0, B.set i true, ?_, ?_, ?_⟩
      · rw [← h.lg] at e2
        simp [F135, ig, d1, shc_nat, idx_setG hig, List.set_set, e2]
      · have c1' : 0 < ge 0 A i := c1
        have e3' : (((ge [] H i).length : Int) == (n : Int) - 1) = true := e3
        simp [F73, ia, ib, ih, c1', hw, e3']
      · refine { h with lg := by rw [List.length_set]; exact h.lg, la := by rw [List.length_set]; exact h.la, lb := by rw [List.length_set]; exact h.lb, r := fun a ha => ?_, idle := fun a b ha hb hab q => ?_ }
        · have hA : gi (A.set i 0) a = if a = i then 0 else gi A a := ge_set hia
          have hB : gb (B.set i true) a = if a = i then true else gb B a := ge_set hib
          rw [ge_set hig, hA, hB]
          by_cases e : a = i
          · subst e
            simp only [if_pos rfl]
            exact ⟨r.c, rfl, rfl, r.h, r.hi, r.w, r.c0, r.c1, Int.le_refl _, Int.natCast_nonneg _, r.wl⟩
          · simp only [if_neg e]; exact h.r a ha
        · have hA : gi (A.set i 0) a = if a = i then 0 else gi A a := ge_set hia
          rw [hA] at q
          by_cases e : a = i
          · subst e
            have hin := hfull.2 c2 b hb (fun z => hab z.symm)
            have := h.un a b ha hb hab
            rw [if_pos hin] at this
            refine ⟨by omega, fun z => ?_, by omega⟩
            rw [if_pos z] at this; omega
          · rw [if_neg e] at q; exact h.idle a b ha hb hab q
    · have e2 : ((((ge d0 G i).2.2.2.1 ||| (1#32 <<< i)) == ((1#32 <<< n) - 1#32))) = false := by
        cases z : (((ge d0 G i).2.2.2.1 ||| (1#32 <<< i)) == ((1#32 <<< n) - 1#32)) with
        | false => rfl
        | true => exact absurd (hfull.1.1 z) c2
      have e3 : (((ge [] H i).length : Int) == (n : Int) - 1) = false := by
        rw [beq_eq_false_iff_ne]
        intro q
        exact c2 (by show (ge [] H i).length = n - 1; omega)
      refine ⟨G, A, B, ?_, ?_, h⟩
      · rw [← h.lg] at e2
        simp [F135, ig, d1, shc_nat, e2]
      · have c1' : 0 < ge 0 A i := c1
        simp [F73, ia, ib, ih, c1', hw, e3]
  · have d1 : ¬ 0 < (ge d0 G i).2.1 := by rw [r.a]; exact c1
    have c1' : ¬ 0 < ge 0 A i := c1
    exact ⟨G, A, B, by simp [F135, ig, d1], by simp [F73, ia, ib, ih, c1'], h⟩
end

/-! One move. -/
def Both (n k : Nat) (l : List Mv) (G : List One) (m : Mp) (C A : List Int) (B : List Bool) (H W : List (List Int)) (way : List Lt) (x : Mv) : Prop :=
  ∃ (e : Int) (G' : List One) (m' : Mp) (C' A' : List Int) (B' : List Bool) (H' W' : List (List Int)) (way' : List Lt),
    F72 (G, m) x = some (e, (G', m')) ∧
    (∀ cs : List Int, cs.length ≤ 60 → F39_L0 (n : Int) l (way, H, B, A, cs, W, C, (k : Int)) = some (.nxt (way', H', B', A', cs ++ [e], W', C', ((k + 1 : Nat) : Int)))) ∧
    Inv n (k + 1) G' m' C' A' B' H' W' way'
section
variable {n k : Nat} {l : List Mv} {G : List One} {m : Mp} {C A : List Int} {B : List Bool} {H W : List (List Int)} {way : List Lt} {x : Mv}
variable (h : Inv n k G m C A B H W way) (hn : n ≤ 6) (hk : l[k]? = some x) (hl : l.length ≤ 60)
include h hn hk hl
theorem kd : decide ((k : Int) < (l.length : Int)) = true := by rw [decide_eq_true_eq]; have := lt_of_get hk; omega
theorem some_first : ∃ r, F61 way x.2.1 x.2.2.1 = some r := by
  rcases first_val way (by have := h.few; have := lt_of_get hk; omega) x.2.1 x.2.2.1 with ⟨_, q⟩ | ⟨_, _, q, _⟩ <;> exact ⟨_, q⟩
theorem wrongKind (c1 : (decide (x.1 < 1) || decide (x.1 > 3)) = true) : Both n k l G m C A B H W way x := by
  obtain ⟨r, hr⟩ := some_first h hn hk hl
  refine ⟨6, G, m, C, A, B, H, W, way, by simp only [F72, c1, cond_true], fun cs hcs => ?_, h.up⟩
  simp only [F39_L0, kd h hn hk hl, idx_some hk, c1, hr, cond_true, Option.bind_some, app1 8 (by decide) cs 6 (by omega), w64_succ (lt_of_get hk) (by omega)]
omit hn hk hl in
/-- Is it wrong? Both say the same. -/
theorem args {two : Bool} : ∃ bad : Bool, (∀ (α : Type) (K : Bool → Option α), (Option.bind (F103 x.2.1 G.length) fun r11 => Option.bind (cond (r11) (some true) (Option.bind (cond two (Option.bind (F103 x.2.2.1 G.length) fun r19 => some (r19 || (x.2.1 == x.2.2.1))) (some false)) fun b17 => some b17)) K) = K bad) ∧
    F57 (n : Int) (x.1, x.2.1, x.2.2.1, x.2.2.2) two = some (!bad) ∧ (bad = false → 0 ≤ x.2.1 ∧ x.2.1 < (n : Int) ∧ (two = true → 0 ≤ x.2.2.1 ∧ x.2.2.1 < (n : Int) ∧ x.2.2.1 ≠ x.2.1)) := by
  unfold F103 F57
  rw [h.lg]
  cases c : ((decide (x.2.1 < 0)) || (decide (x.2.1 ≥ (n : Int)))) with
  | true => exact ⟨true, by intro α K; simp, by simp, fun e => by cases e⟩
  | false =>
    simp only [Bool.or_eq_false_iff, decide_eq_false_iff_not] at c
    cases two with
    | false => exact ⟨false, by intro α K; simp, by simp, fun _ => ⟨by omega, by omega, fun e => by cases e⟩⟩
    | true =>
      refine ⟨((decide (x.2.2.1 < 0)) || (decide (x.2.2.1 ≥ (n : Int)))) || (x.2.1 == x.2.2.1), by intro α K; simp, ?_, fun e => ?_⟩
      · simp only [cond_false, Bool.not_true, Bool.false_or, Option.some.injEq]
        rw [Bool.eq_iff_iff]
        simp only [Bool.and_eq_true, decide_eq_true_eq, bne_iff_ne, Bool.not_eq_true', Bool.or_eq_false_iff, decide_eq_false_iff_not, beq_eq_false_iff_ne]
        omega
      · simp only [Bool.or_eq_false_iff, decide_eq_false_iff_not, beq_eq_false_iff_ne] at e
        exact ⟨by omega, by omega, fun _ => ⟨by omega, by omega, fun q => e.2 q.symm⟩⟩
theorem wrongArg (c1 : (decide (x.1 < 1) || decide (x.1 > 3)) = false) (a1 : ∀ (α : Type) (K : Bool → Option α), (Option.bind (F103 x.2.1 G.length) fun r11 => Option.bind (cond (r11) (some true) (Option.bind (cond (x.1 == 2) (Option.bind (F103 x.2.2.1 G.length) fun r19 => some (r19 || (x.2.1 == x.2.2.1))) (some false)) fun b17 => some b17)) K) = K true)
    (a2 : F57 (n : Int) (x.1, x.2.1, x.2.2.1, x.2.2.2) (x.1 == 2) = some false) : Both n k l G m C A B H W way x := by
  obtain ⟨r, hr⟩ := some_first h hn hk hl
  refine ⟨2, G, m, C, A, B, H, W, way, ?_, fun cs hcs => ?_, h.up⟩
  · unfold F72
    simp only [c1, cond_false]
    rw [a1]; rfl
  · simp only [F39_L0, kd h hn hk hl, idx_some hk, c1, hr, a2, Bool.not_false, cond_true, cond_false, Option.bind_some, app1 8 (by decide) cs 2 (by omega), w64_succ (lt_of_get hk) (by omega)]
end
section
variable {n k : Nat} {l : List Mv} {G : List One} {m : Mp} {C A : List Int} {B : List Bool} {H W : List (List Int)} {way : List Lt} {i j : Nat} {q t v : Int}
variable (h : Inv n k G m C A B H W way) (hn : n ≤ 6) (hk : l[k]? = some (q, (i : Int), t, v)) (hl : l.length ≤ 60) (hi : i < n) (c1 : (decide (q < 1) || decide (q > 3)) = false)
  (a1 : ∀ (α : Type) (K : Bool → Option α), (Option.bind (F103 (i : Int) G.length) fun r11 => Option.bind (cond (r11) (some true) (Option.bind (cond (q == 2) (Option.bind (F103 t G.length) fun r19 => some (r19 || ((i : Int) == t))) (some false)) fun b17 => some b17)) K) = K false)
  (a2 : F57 (n : Int) (q, (i : Int), t, v) (q == 2) = some true)
include h hn hk hl hi c1 a1 a2
theorem wants (hq : q = 1) : Both n k l G m C A B H W way (q, (i : Int), t, v) := by
  subst hq
  have f1 := lt_of_get hk
  have kd1 := kd h hn hk hl
  have few := h.few
  obtain ⟨r0, hr0⟩ := some_first h hn hk hl
  have hr0' : F61 way (i : Int) t = some r0 := hr0
  have n13 : ((1 : Int) == 3) = false := rfl
  have n12 : ((1 : Int) == 2) = false := rfl
  have n11 : ((1 : Int) == 1) = true := rfl
  have hig : i < G.length := by rw [h.lg]; exact hi
  have ig := idx_ge d0 hig
  have hic : i < C.length := by rw [h.lc]; exact hi
  have hia : i < A.length := by rw [h.la]; exact hi
  have hih : i < H.length := by rw [h.lh]; exact hi
  have ic := idx_ge (0 : Int) hic
  have ia := idx_ge (0 : Int) hia
  have ib := idx_ge false (l := B) (j := i) (by rw [h.lb]; exact hi)
  have ih := idx_ge ([] : List Int) hih
  have r := h.r i hi
  by_cases e : gb B i = true ∨ 0 < gi A i
  · -- held
    have e1 : ((ge d0 G i).2.2.1 || decide ((ge d0 G i).2.1 > 0)) = true := by rw [r.b, r.a]; simpa using e
    refine ⟨7, G, m, C, A, B, H, W, way, ?_, fun cs hcs => ?_, h.up⟩
    · unfold F72 F104
      simp only [c1, cond_false]
      rw [a1]
      simp only [n11, cond_true, cond_false, ig, Option.bind_some, e1]
    · have ap := app1 8 (by decide) cs 7 (by omega)
      have e2 : (cond (ge false B i) (some true) (some (decide (ge 0 A i > 0)))) = some true := by
        cases z : ge false B i with
        | true => rfl
        | false =>
          have : 0 < gi A i := e.resolve_left (fun y => by have y' : ge false B i = true := y; rw [z] at y'; cases y')
          simp only [cond_false, decide_eq_true (show ge 0 A i > 0 from this)]
      simp only [F39_L0, kd1, idx_some hk, c1, hr0', a2, Bool.not_true, n11, n13, cond_true, cond_false, Option.bind_some, ib, ia, e2, ap, w64_succ f1 (by omega)]
  · have eb : gb B i = false := by
      cases z : gb B i with
      | false => rfl
      | true => exact absurd (.inl z) e
    have ea : gi A i = 0 := by have := r.a0; have : ¬ 0 < gi A i := fun z => e (.inr z); omega
    have e1 : ((ge d0 G i).2.2.1 || decide ((ge d0 G i).2.1 > 0)) = false := by rw [r.b, r.a, eb, ea]; rfl
    have hc0 := r.c0
    have hc1 := r.c1
    have hw : w64 (gi C i + 1) = gi C i + 1 := w64i (by omega) (by omega)
    obtain ⟨P, hP⟩ : ∃ P : Nat → Bool, P = fun k => k != i := ⟨_, rfl⟩
    have rel : ∀ k, WRel id (sendM i P (gi C i + 1) k m) (sendW i P (gi C i + 1) k way) := fun k => send_rel h.ways i P (gi C i + 1) k
    have len := fun k => sendW_len i P (gi C i + 1) way k
    have hP0 : P i = false := by rw [hP]; simp
    have hP1 : ∀ b, b ≠ i → P b = true := fun b hb => by rw [hP]; simpa using hb
    have I1 : Inv n (k + 1) (G.set i (gi C i + 1, gi C i + 1, (ge d0 G i).2.2.1, 0#32, (ge d0 G i).2.2.2.2)) (sendM i P (gi C i + 1) n m) (C.set i (gi C i + 1)) (A.set i (gi C i + 1)) B (H.set i []) W (sendW i P (gi C i + 1) n way) := by
      have hA : ∀ a, gi (A.set i (gi C i + 1)) a = if a = i then gi C i + 1 else gi A a := fun a => ge_set hia
      have hC : ∀ a, gi (C.set i (gi C i + 1)) a = if a = i then gi C i + 1 else gi C a := fun a => ge_set hic
      have hH : ∀ a, gl (H.set i []) a = if a = i then [] else gl H a := fun a => ge_set hih
      refine ⟨by rw [List.length_set]; exact h.lg, by rw [List.length_set]; exact h.lc, by rw [List.length_set]; exact h.la, h.lb, by rw [List.length_set]; exact h.lh, h.lw, fun a ha => ?_, rel n, by have := len n; omega, fun a b y hy => ?_, fun a b ha hb hab => ?_, fun a b ha hb hab q => ?_⟩
      · rw [ge_set hig, hA, hC, hH]
        by_cases e2 : a = i
        · subst e2
          simp only [if_pos rfl]
          exact ⟨rfl, rfl, r.b, Same.zero, by simp, r.w, by omega, by push_cast; omega, by omega, by push_cast; omega, by have := r.wl; omega⟩
        · simp only [if_neg e2]; exact (h.r a ha).up
      · rw [qs_sendW] at hy
        rcases List.mem_append.1 hy with hy | hy
        · have := h.val a b y hy; push_cast; omega
        · split at hy
          · simp at hy; push_cast; omega
          · cases hy
      · rw [qs_sendW, qs_sendW, nz_app, zz_app, hH]
        have hu := h.un a b ha hb hab
        have hz0 : zz (if b = i ∧ a < n ∧ P a = true then [gi C i + 1] else []) = 0 := by
          split
          · rw [zz_cons, if_neg (by omega)]; rfl
          · rfl
        by_cases e2 : a = i
        · subst e2
          obtain ⟨i1, i2, i3⟩ := h.idle a b ha hb hab ea
          have hb' : b ≠ a := fun z => hab z.symm
          rw [if_pos rfl, if_pos ⟨rfl, hb, hP1 b hb'⟩, i1, if_neg i2, i3, hz0, if_neg (by simp), nz_cons, if_neg (by omega)]
          simp [nz]
        · have e3 : ¬ (a = i ∧ b < n ∧ P b = true) := fun z => e2 z.1
          rw [if_neg e2, if_neg e3, hz0]
          simp only [nz, List.countP_nil, Nat.add_zero] at hu ⊢
          exact hu
      · rw [hA] at q
        by_cases e2 : a = i
        · rw [if_pos e2] at q; omega
        · rw [if_neg e2] at q
          obtain ⟨i1, i2, i3⟩ := h.idle a b ha hb hab q
          have e3 : ¬ (a = i ∧ b < n ∧ P b = true) := fun z => e2 z.1
          have hz0 : zz (if b = i ∧ a < n ∧ P a = true then [gi C i + 1] else []) = 0 := by
            split
            · rw [zz_cons, if_neg (by omega)]; rfl
            · rfl
          rw [qs_sendW, qs_sendW, nz_app, zz_app, if_neg e3, hz0, i1, i3]
          exact ⟨rfl, i2, rfl⟩
    obtain ⟨G', A', B', q1, q2, q3⟩ := enter_both I1 hn hi
    have l1 : whileM (F104_L0 (G, m) (i : Int) (ge d0 G i) (gi C i + 1, (ge d0 G i).2.1, (ge d0 G i).2.2.1, (ge d0 G i).2.2.2.1, (ge d0 G i).2.2.2.2) (gi C i + 1, (ge d0 G i).2.1, (ge d0 G i).2.2.1, (ge d0 G i).2.2.2.1, (ge d0 G i).2.2.2.2) (gi C i + 1, gi C i + 1, (ge d0 G i).2.2.1, (ge d0 G i).2.2.2.1, (ge d0 G i).2.2.2.2)) (m, 0) = some (.brk (sendM i P (gi C i + 1) n m)) := by
      have rc : (ge d0 G i).1 = gi C i := r.c
      have := while_upto (body := F104_L0 (G, m) (i : Int) (ge d0 G i) (gi C i + 1, (ge d0 G i).2.1, (ge d0 G i).2.2.1, (ge d0 G i).2.2.2.1, (ge d0 G i).2.2.2.2) (gi C i + 1, (ge d0 G i).2.1, (ge d0 G i).2.2.1, (ge d0 G i).2.2.2.1, (ge d0 G i).2.2.2.2) (gi C i + 1, gi C i + 1, (ge d0 G i).2.2.1, (ge d0 G i).2.2.2.1, (ge d0 G i).2.2.2.2)) (fun k => (sendM i P (gi C i + 1) k m, (k : Int))) n (c := .brk (sendM i P (gi C i + 1) n m)) (fun k hk => ?_) (by simp [F104_L0, h.lg]) (by simp)
      · exact this
      · have hd : decide ((k : Int) < (G.length : Int)) = true := by rw [decide_eq_true_eq, h.lg]; omega
        have hq := (rel k).len (i : Int) (k : Int)
        have hw2 := len k
        by_cases e2 : k = i
        · have e3 : ((k : Int) != (i : Int)) = false := by simp [e2]
          have e4 : P k = false := by rw [e2]; exact hP0
          simp only [F104_L0, List.length_set, hd, cond_true, e3, cond_false, Option.bind_some, w64_succ hk (by omega), sendM, e4, Bool.false_eq_true, if_false]
        · have e3 : ((k : Int) != (i : Int)) = true := by simp; omega
          have e4 : P k = true := hP1 k e2
          simp only [F104_L0, List.length_set, hd, cond_true, e3, Option.bind_some, w64_succ hk (by omega), sendM, e4, if_true, Int.toNat_natCast, List.set_set, idx_setG hig, F134, app1 8 (by decide) ((sendM i P (gi C i + 1) k m ((i : Int), (k : Int))).getD []) (gi C i + 1) (by omega)]
    have l2 : whileM (F39_L1 (n : Int) A (1, (i : Int), t, v) (gi C i + 1)) (way, 0) = some (.brk (sendW i P (gi C i + 1) n way)) := by
      have := while_upto (body := F39_L1 (n : Int) A (1, (i : Int), t, v) (gi C i + 1)) (fun k => (sendW i P (gi C i + 1) k way, (k : Int))) n (c := .brk (sendW i P (gi C i + 1) n way)) (fun k hk => ?_) (by simp [F39_L1]) (by simp)
      · exact this
      · have hd : decide ((k : Int) < (n : Int)) = true := by rw [decide_eq_true_eq]; omega
        have hw2 := len k
        by_cases e2 : k = i
        · have e3 : ((k : Int) != (i : Int)) = false := by simp [e2]
          have e4 : P k = false := by rw [e2]; exact hP0
          simp only [F39_L1, hd, cond_true, e3, cond_false, Option.bind_some, w64_succ hk (by omega), sendW, e4, Bool.false_eq_true, if_false]
        · have e3 : ((k : Int) != (i : Int)) = true := by simp; omega
          have e4 : P k = true := hP1 k e2
          simp only [F39_L1, hd, cond_true, e3, Option.bind_some, w64_succ hk (by omega), sendW, e4, if_true, Int.toNat_natCast, idx_setG hia, app1 24 (by decide) (sendW i P (gi C i + 1) k way) ((i : Int), (k : Int), gi C i + 1) (by omega)]
    refine ⟨0, G', sendM i P (gi C i + 1) n m, C.set i (gi C i + 1), A', B', H.set i [], W, sendW i P (gi C i + 1) n way, ?_, fun cs hcs => ?_, q3⟩
    · have rc : (ge d0 G i).1 = gi C i := r.c
      unfold F72 F104
      simp only [c1, cond_false]
      rw [a1]
      simp only [n11, cond_true, cond_false, ig, Option.bind_some, e1, rc, hw, idx_setG hig, Int.toNat_natCast, List.set_set, l1, Ctl.on, q1]
    · have ap := app1 8 (by decide) cs 0 (by omega)
      have eb' : ge false B i = false := eb
      have ea' : ge 0 A i = 0 := ea
      have hw' : w64 (ge 0 C i + 1) = ge 0 C i + 1 := hw
      simp only [F39_L0, kd1, idx_some hk, c1, hr0', a2, Bool.not_true, n11, n13, cond_true, cond_false, Option.bind_some, ib, ia, eb', ea', show decide ((0 : Int) > 0) = false from rfl, ic, hw', idx_setG hic, ih, Int.toNat_natCast, l2, Ctl.on, q2, ap, w64_succ f1 (by omega)]
theorem leaves (hq : q = 3) : Both n k l G m C A B H W way (q, (i : Int), t, v) := by
  subst hq
  have f1 := lt_of_get hk
  have kd1 := kd h hn hk hl
  have few := h.few
  obtain ⟨r0, hr0⟩ := some_first h hn hk hl
  have hr0' : F61 way (i : Int) t = some r0 := hr0
  have n31 : ((3 : Int) == 1) = false := rfl
  have n32 : ((3 : Int) == 2) = false := rfl
  have n33 : ((3 : Int) == 3) = true := rfl
  have hig : i < G.length := by rw [h.lg]; exact hi
  have ig := idx_ge d0 hig
  have hib : i < B.length := by rw [h.lb]; exact hi
  have hiw : i < W.length := by rw [h.lw]; exact hi
  have ib := idx_ge false hib
  have iw := idx_ge ([] : List Int) hiw
  have r := h.r i hi
  cases e : gb B i with
  | false =>
    have eb' : ge false B i = false := e
    have eg : (ge d0 G i).2.2.1 = false := by rw [r.b]; exact e
    refine ⟨7, G, m, C, A, B, H, W, way, ?_, fun cs hcs => ?_, h.up⟩
    · unfold F72 F106
      simp only [c1, cond_false]
      rw [a1]
      simp only [n31, n32, cond_true, cond_false, ig, Option.bind_some, eg, Bool.not_false]
    · have ap := app1 8 (by decide) cs 7 (by omega)
      simp only [F39_L0, kd1, idx_some hk, c1, hr0', a2, Bool.not_true, Bool.not_false, n31, n33, cond_true, cond_false, Option.bind_some, ib, eb', ap, w64_succ f1 (by omega)]
  | true =>
    have eb' : ge false B i = true := e
    have eg : (ge d0 G i).2.2.1 = true := by rw [r.b]; exact e
    obtain ⟨P, hP⟩ : ∃ P : Nat → Bool, P = fun j : Nat => decide ((j : Int) ∈ gl W i) := ⟨_, rfl⟩
    have hPb : ∀ j, (ge d0 G i).2.2.2.2.getLsbD j = P j := fun j => by
      rw [hP, Bool.eq_iff_iff, r.w j, decide_eq_true_eq]
    have hPm : ∀ j, P j = true ↔ (j : Int) ∈ gl W i := fun j => by rw [hP, decide_eq_true_eq]
    have rel : ∀ k, WRel id (sendM i P (0 : Int) k m) (sendW i P 0 k way) := fun k => send_rel h.ways i P (0 : Int) k
    have len := fun k => sendW_len i P 0 way k
    have I1 : Inv n (k + 1) (G.set i ((ge d0 G i).1, (ge d0 G i).2.1, false, (ge d0 G i).2.2.2.1, 0#32)) (sendM i P 0 n m) C A (B.set i false) H (W.set i []) (sendW i P 0 n way) := by
      have hB : ∀ a, gb (B.set i false) a = if a = i then false else gb B a := fun a => ge_set hib
      have hW : ∀ a, gl (W.set i []) a = if a = i then [] else gl W a := fun a => ge_set hiw
      have hz : ∀ a b, nz (if b = i ∧ a < n ∧ P a = true then [(0 : Int)] else []) = 0 := fun a b => by
        split
        · rfl
        · rfl
      refine ⟨by rw [List.length_set]; exact h.lg, h.lc, h.la, by rw [List.length_set]; exact h.lb, h.lh, by rw [List.length_set]; exact h.lw, fun a ha => ?_, rel n, by have := len n; omega, fun a b y hy => ?_, fun a b ha hb hab => ?_, fun a b ha hb hab q => ?_⟩
      · rw [ge_set hig, hB, hW]
        by_cases e2 : a = i
        · subst e2
          simp only [if_pos rfl]
          have ru := r.up
          exact ⟨ru.c, ru.a, rfl, ru.h, ru.hi, fun b => by simp, ru.c0, ru.c1, ru.a0, ru.a1, by simp⟩
        · simp only [if_neg e2]; exact (h.r a ha).up
      · rw [qs_sendW] at hy
        rcases List.mem_append.1 hy with hy | hy
        · have := h.val a b y hy; push_cast; omega
        · split at hy
          · simp at hy; push_cast; omega
          · cases hy
      · rw [qs_sendW, qs_sendW, nz_app, zz_app, hW, hz b a]
        have hu := h.un a b ha hb hab
        have hzz : zz [] = 0 := rfl
        by_cases e2 : b = i
        · subst e2
          have g1 : ¬ (a : Int) ∈ (if b = b then ([] : List Int) else gl W b) := by simp
          rw [if_neg g1]
          by_cases e3 : (a : Int) ∈ gl W b
          · have g2 : (if b = b ∧ a < n ∧ P a = true then [(0 : Int)] else []) = [0] := if_pos ⟨rfl, ha, (hPm a).2 e3⟩
            rw [if_pos e3] at hu
            rw [g2, zz_cons, if_pos rfl]
            omega
          · have g2 : (if b = b ∧ a < n ∧ P a = true then [(0 : Int)] else []) = [] := if_neg (fun z => e3 ((hPm a).1 z.2.2))
            rw [if_neg e3] at hu
            rw [g2]
            omega
        · have g2 : (if b = i ∧ a < n ∧ P a = true then [(0 : Int)] else []) = [] := if_neg (fun z => e2 z.1)
          rw [if_neg e2, g2]
          omega
      · obtain ⟨i1, i2, i3⟩ := h.idle a b ha hb hab q
        rw [qs_sendW, qs_sendW, nz_app, zz_app, hW, hz b a, i1, i3]
        by_cases e2 : b = i
        · subst e2
          have g2 : (if b = b ∧ a < n ∧ P a = true then [(0 : Int)] else []) = [] := if_neg (fun z => i2 ((hPm a).1 z.2.2))
          rw [if_pos rfl, g2]
          exact ⟨rfl, by simp, rfl⟩
        · rw [if_neg e2, if_neg (fun z => e2 z.1)]
          exact ⟨rfl, i2, rfl⟩
    have l1 : whileM (F106_L0 (G, m) (i : Int) (ge d0 G i)) (m, 0) = some (.brk (sendM i P 0 n m)) := by
      have := while_upto (body := F106_L0 (G, m) (i : Int) (ge d0 G i)) (fun k => (sendM i P 0 k m, (k : Int))) n (c := .brk (sendM i P 0 n m)) (fun k hk => ?_) (by simp [F106_L0, h.lg]) (by simp)
      · exact this
      · have hd : decide ((k : Int) < (G.length : Int)) = true := by rw [decide_eq_true_eq, h.lg]; omega
        have hq := (rel k).len (i : Int) (k : Int)
        have hw2 := len k
        have hb := hPb k
        cases e4 : P k with
        | false =>
          rw [e4] at hb
          simp only [F106_L0, List.length_set, hd, cond_true, cond_false, Int.toNat_natCast, idx_setG hig, Option.bind_some, shc_nat, bitT, hb, w64_succ hk (by omega), sendM, e4, Bool.false_eq_true, if_false]
        | true =>
          rw [e4] at hb
          simp only [F106_L0, List.length_set, hd, cond_true, Int.toNat_natCast, idx_setG hig, Option.bind_some, shc_nat, bitT, hb, w64_succ hk (by omega), sendM, e4, if_true, F134, app1 8 (by decide) ((sendM i P 0 k m ((i : Int), (k : Int))).getD []) (0 : Int) (by omega)]
    have l2 : whileM (F39_L2 (n : Int) W (3, (i : Int), t, v)) (way, 0) = some (.brk (sendW i P 0 n way)) := by
      have hwl := r.wl
      have := while_upto (body := F39_L2 (n : Int) W (3, (i : Int), t, v)) (fun k => (sendW i P 0 k way, (k : Int))) n (c := .brk (sendW i P 0 n way)) (fun k hk => ?_) (by simp [F39_L2]) (by simp)
      · exact this
      · have hd : decide ((k : Int) < (n : Int)) = true := by rw [decide_eq_true_eq]; omega
        have hw2 := len k
        have hh := has_val (ge [] W i) (by have : (ge [] W i).length ≤ _ := hwl; omega) (k : Int)
        have hp : decide ((k : Int) ∈ ge [] W i) = P k := by rw [hP]
        rw [hp] at hh
        cases e4 : P k with
        | false =>
          rw [e4] at hh
          simp only [F39_L2, hd, cond_true, cond_false, iw, Option.bind_some, hh, w64_succ hk (by omega), sendW, e4, Bool.false_eq_true, if_false]
        | true =>
          rw [e4] at hh
          simp only [F39_L2, hd, cond_true, iw, Option.bind_some, hh, w64_succ hk (by omega), sendW, e4, if_true, app1 24 (by decide) (sendW i P 0 k way) ((i : Int), (k : Int), (0 : Int)) (by omega)]
    refine ⟨0, _, _, C, A, B.set i false, H, W.set i [], _, ?_, fun cs hcs => ?_, I1⟩
    · unfold F72 F106
      simp only [c1, cond_false]
      rw [a1]
      simp only [n31, n32, cond_true, cond_false, ig, Option.bind_some, eg, Bool.not_true, l1, Ctl.on, Int.toNat_natCast, idx_setG hig, List.set_set]
    · have ap := app1 8 (by decide) cs 0 (by omega)
      simp only [F39_L0, kd1, idx_some hk, c1, hr0', a2, Bool.not_true, Bool.not_false, n31, n33, cond_true, cond_false, Option.bind_some, ib, eb', iw, l2, Ctl.on, ap, Int.toNat_natCast, w64_succ f1 (by omega)]
theorem comes (hq : q = 2) (ht : t = (j : Int)) (hj : j < n) (hij : j ≠ i) : Both n k l G m C A B H W way (q, (i : Int), t, v) := by
  subst hq; subst ht
  have f1 := lt_of_get hk
  have kd1 := kd h hn hk hl
  have few := h.few
  have n21 : ((2 : Int) == 1) = false := rfl
  have n22 : ((2 : Int) == 2) = true := rfl
  have n23 : ((2 : Int) == 3) = false := rfl
  have hjg : j < G.length := by rw [h.lg]; exact hj
  have jg := idx_ge d0 hjg
  have hjc : j < C.length := by rw [h.lc]; exact hj
  have hjh : j < H.length := by rw [h.lh]; exact hj
  have hjw : j < W.length := by rw [h.lw]; exact hj
  have jc := idx_ge (0 : Int) hjc
  have ja := idx_ge (0 : Int) (l := A) (j := j) (by rw [h.la]; exact hj)
  have jb := idx_ge false (l := B) (j := j) (by rw [h.lb]; exact hj)
  have jh := idx_ge ([] : List Int) hjh
  have jw := idx_ge ([] : List Int) hjw
  have r := h.r j hj
  rcases first_val way (by omega) (i : Int) (j : Int) with ⟨g1, g2⟩ | ⟨p, y, g1, g2, g3, g4, g5⟩
  · have hm := (h.ways.none_iff (i : Int) (j : Int)).2 g1
    refine ⟨5, G, m, C, A, B, H, W, way, ?_, fun cs hcs => ?_, h.up⟩
    · unfold F72 F105
      simp only [c1, cond_false]
      rw [a1]; simp [hm]
    · have ap := app1 8 (by decide) cs 5 (by omega)
      simp only [F39_L0, kd1, idx_some hk, c1, g2, a2, Bool.not_true, n21, n23, cond_true, cond_false, Option.bind_some, ap, w64_succ f1 (by omega), show decide ((-1 : Int) < 0) = true from rfl]
  · obtain ⟨z, zs, hm⟩ : ∃ z zs, (m ((i : Int), (j : Int))).getD [] = z :: zs := by
      cases e : (m ((i : Int), (j : Int))).getD [] with
      | nil => have := (h.ways.none_iff (i : Int) (j : Int)).1 e; rw [g4] at this; cases this
      | cons z zs => exact ⟨z, zs, rfl⟩
    obtain ⟨ex, rel⟩ := h.ways.take hm g4 g5
    have ex' : y = z := ex
    subst ex'
    have hw := without_val (by omega) g2
    have ig := idx_some g3
    have gp : decide (((p : Int)) < 0) = false := by simp
    have hml : (((m ((i : Int), (j : Int))).getD []).length : Int) = (zs.length : Int) + 1 := by rw [hm]; simp
    have hne : ((((m ((i : Int), (j : Int))).getD []).length : Int) == 0) = false := by rw [hml]; simp; omega
    have hs : slI (y :: zs) 1 ((y :: zs).length : Int) = some zs := by
      unfold slI; rw [if_pos ⟨by omega, by simp only [List.length_cons]; omega, by omega⟩]; simp
    have i0 : idx (y :: zs) 0 = some y := by simp [idx]
    have wl : (way.eraseIdx p).length ≤ way.length := by rw [List.length_eraseIdx]; split <;> omega
    -- what stands on the ways behind
    have qn : ∀ a b : Nat, nz (qs (way.eraseIdx p) (a : Int) (b : Int)) + (if a = i ∧ b = j ∧ y ≠ 0 then 1 else 0) = nz (qs way (a : Int) (b : Int)) := fun a b => by
      by_cases e : a = i ∧ b = j
      · obtain ⟨rfl, rfl⟩ := e
        rw [g4, nz_cons]
        by_cases e2 : y = 0 <;> simp [e2]
      · rw [g5 (a : Int) (b : Int) (fun z => e (by obtain ⟨z1, z2⟩ := Prod.mk.inj z; omega)), if_neg (fun z => e ⟨z.1, z.2.1⟩)]; rfl
    have qz : ∀ a b : Nat, zz (qs (way.eraseIdx p) (a : Int) (b : Int)) + (if a = i ∧ b = j ∧ y = 0 then 1 else 0) = zz (qs way (a : Int) (b : Int)) := fun a b => by
      by_cases e : a = i ∧ b = j
      · obtain ⟨rfl, rfl⟩ := e
        rw [g4, zz_cons]
        by_cases e2 : y = 0 <;> simp [e2]
      · rw [g5 (a : Int) (b : Int) (fun z => e (by obtain ⟨z1, z2⟩ := Prod.mk.inj z; omega)), if_neg (fun z => e ⟨z.1, z.2.1⟩)]; rfl
    have qv : ∀ a b : Nat, ∀ x ∈ qs (way.eraseIdx p) (a : Int) (b : Int), 0 ≤ x ∧ x ≤ (k : Int) := fun a b x hx => by
      refine h.val a b x ?_
      by_cases e : ((a : Int), (b : Int)) = ((i : Int), (j : Int))
      · obtain ⟨z1, z2⟩ := Prod.mk.inj e
        rw [z1, z2] at hx ⊢; rw [g4]; exact List.mem_cons_of_mem _ hx
      · rw [g5 _ _ e] at hx; exact hx
    have yv : 0 ≤ y ∧ y ≤ (k : Int) := h.val i j y (by rw [g4]; simp)
    by_cases ez : y = 0
    · -- a leave
      subst ez
      have hu := h.un j i hj hi hij
      have hzq := qz i j
      rw [if_pos ⟨rfl, rfl, rfl⟩] at hzq
      have hnot : (i : Int) ∉ gl H j := fun z => by rw [if_pos z] at hu; omega
      have hask : gi A j ≠ 0 := fun z => by
        have := (h.idle j i hj hi hij z).2.2; omega
      have hH : ∀ a, gl (H.set j (gl H j ++ [(i : Int)])) a = if a = j then gl H j ++ [(i : Int)] else gl H a := fun a => ge_set hjh
      have I1 : Inv n (k + 1) (G.set j ((ge d0 G j).1, (ge d0 G j).2.1, (ge d0 G j).2.2.1, ((ge d0 G j).2.2.2.1 ||| (1#32 <<< i)), (ge d0 G j).2.2.2.2)) (mupd m ((i : Int), (j : Int)) zs) C A B (H.set j (gl H j ++ [(i : Int)])) W (way.eraseIdx p) := by
        refine ⟨by rw [List.length_set]; exact h.lg, h.lc, h.la, h.lb, by rw [List.length_set]; exact h.lh, h.lw, fun a ha => ?_, rel, by omega, fun a b x hx => by have := qv a b x hx; push_cast; omega, fun a b ha hb hab => ?_, fun a b ha hb hab q => ?_⟩
        · rw [ge_set hjg, hH]
          by_cases e2 : a = j
          · subst e2
            simp only [if_pos rfl]
            have ru := r.up
            exact ⟨ru.c, ru.a, ru.b, ru.h.new hi hn hnot, fun z => by
              rcases List.mem_append.1 z with z | z
              · exact ru.hi z
              · simp at z; omega, ru.w, ru.c0, ru.c1, ru.a0, ru.a1, ru.wl⟩
          · simp only [if_neg e2]; exact (h.r a ha).up
        · have h1 := qn a b
          have h2 := qz b a
          have h3 := h.un a b ha hb hab
          rw [hH]
          rw [if_neg (fun z => z.2.2 rfl)] at h1
          by_cases e2 : a = j
          · subst e2
            have g0 : (if a = a then gl H a ++ [(i : Int)] else gl H a) = gl H a ++ [(i : Int)] := if_pos rfl
            rw [g0]
            by_cases e3 : b = i
            · subst e3
              have g1 : (b : Int) ∈ gl H a ++ [(b : Int)] := by simp
              rw [if_pos ⟨rfl, rfl, rfl⟩] at h2
              rw [if_pos g1]
              rw [if_neg hnot] at h3
              omega
            · have e4 : ((b : Int) ∈ gl H a ++ [(i : Int)]) ↔ (b : Int) ∈ gl H a := by
                rw [List.mem_append, List.mem_singleton]
                constructor
                · rintro (z | z)
                  · exact z
                  · omega
                · exact .inl
              rw [if_neg (fun z => e3 z.1)] at h2
              by_cases e5 : (b : Int) ∈ gl H a
              · rw [if_pos (e4.2 e5)]; rw [if_pos e5] at h3; omega
              · rw [if_neg (fun z => e5 (e4.1 z))]; rw [if_neg e5] at h3; omega
          · rw [if_neg e2]
            rw [if_neg (fun z => e2 z.2.1)] at h2
            omega
        · have e2 : a ≠ j := fun z => hask (z ▸ q)
          obtain ⟨i1, i2, i3⟩ := h.idle a b ha hb hab q
          have h1 := qn a b
          have h2 := qz b a
          exact ⟨by omega, i2, by omega⟩
      obtain ⟨G', A', B', q1, q2, q3⟩ := enter_both I1 hn hj
      have apH := app1 8 (by decide) (ge [] H j) (i : Int) (by have : (ge [] H j).length ≤ n := r.h.le; omega)
      refine ⟨0, G', _, C, A', B', _, W, way.eraseIdx p, ?_, fun cs hcs => ?_, q3⟩
      · unfold F72 F105
        simp only [c1, cond_false]
        rw [a1]
        simp only [n21, n22, cond_true, cond_false, Option.bind_some, hne]
        rw [hm, hs]
        simp only [i0, Option.bind_some, jg, show ((0 : Int) == 0) = true from rfl, cond_true, shc_nat, Int.toNat_natCast, q1]
      · have ap := app1 8 (by decide) cs 0 (by omega)
        have q2' : F73 (j : Int) A (H.set j (ge [] H j ++ [(i : Int)])) (n : Int) B = some (A', H.set j (ge [] H j ++ [(i : Int)]), B') := q2
        simp only [F39_L0, kd1, idx_some hk, c1, g1, a2, Bool.not_true, n21, n23, cond_true, cond_false, Option.bind_some, gp, ig, hw, show ((0 : Int) == 0) = true from rfl, jh, apH, Int.toNat_natCast, q2', ap, w64_succ f1 (by omega)]
    · -- an ask
      have ezb : (y == 0) = false := by simpa using ez
      have hu := h.un i j hi hj (fun z => hij z.symm)
      have hnq := qn i j
      rw [if_pos ⟨rfl, rfl, ez⟩] at hnq
      have hnotW : (i : Int) ∉ gl W j := fun z => by rw [if_pos z] at hu; omega
      have hask : gi A i ≠ 0 := fun z => by
        have := (h.idle i j hi hj (fun z => hij z.symm) z).1; omega
      -- the clock
      obtain ⟨C1, hC1⟩ : ∃ C1, C1 = C.set j (mx (gi C j) y) := ⟨_, rfl⟩
      have hCl : C1.length = n := by rw [hC1, List.length_set]; exact h.lc
      have hCg : ∀ a, gi C1 a = if a = j then mx (gi C j) y else gi C a := fun a => by rw [hC1]; exact ge_set hjc
      have hclock : (cond (decide (ge 0 C j < y)) (some (C.set j y)) (some C)) = some C1 := by
        rw [hC1]
        by_cases e : ge 0 C j < y
        · rw [decide_eq_true e, cond_true]
          have : mx (gi C j) y = y := by unfold mx; rw [if_pos (show y > gi C j from e)]
          rw [this]
        · rw [decide_eq_false e, cond_false]
          have : mx (gi C j) y = ge 0 C j := by unfold mx; rw [if_neg (show ¬ y > gi C j from e)]
          rw [this, ge_self hjc]
      have hmx : 0 ≤ mx (gi C j) y ∧ mx (gi C j) y ≤ (k : Int) := by
        have := r.c0; have := r.c1
        unfold mx; split <;> omega
      have rj : R n (k + 1) j (mx (gi C j) y, (ge d0 G j).2.1, (ge d0 G j).2.2.1, (ge d0 G j).2.2.2.1, (ge d0 G j).2.2.2.2) (mx (gi C j) y) (gi A j) (gb B j) (gl H j) (gl W j) := by
        have ru := r.up
        exact ⟨rfl, ru.a, ru.b, ru.h, ru.hi, ru.w, hmx.1, by push_cast; omega, ru.a0, ru.a1, ru.wl⟩
      have rc : (ge d0 G j).1 = gi C j := r.c
      have ra : (ge d0 G j).2.1 = gi A j := r.a
      have rb : (ge d0 G j).2.2.1 = gb B j := r.b
      have hci : (cond (decide (ge 0 C j < y)) (Option.bind (some (ge 0 C j)) fun x243 => some (C.set j y)) (some C)) = some C1 := hclock
      cases ed : (gb B j || (decide (gi A j > 0) && (decide (gi A j < y) || ((gi A j == y) && decide ((j : Int) < (i : Int)))))) with
      | true =>
        -- it waits
        have hW : ∀ a, gl (W.set j (gl W j ++ [(i : Int)])) a = if a = j then gl W j ++ [(i : Int)] else gl W a := fun a => ge_set hjw
        have apW := app1 8 (by decide) (ge [] W j) (i : Int) (by have : (ge [] W j).length ≤ k := r.wl; omega)
        refine ⟨0, G.set j (mx (gi C j) y, (ge d0 G j).2.1, (ge d0 G j).2.2.1, (ge d0 G j).2.2.2.1, ((ge d0 G j).2.2.2.2 ||| (1#32 <<< i))), mupd m ((i : Int), (j : Int)) zs, C1, A, B, H, W.set j (gl W j ++ [(i : Int)]), way.eraseIdx p, ?_, fun cs hcs => ?_, ?_⟩
        · unfold F72 F105
          simp only [c1, cond_false]
          rw [a1]
          simp only [n21, n22, cond_true, cond_false, Option.bind_some, hne]
          rw [hm, hs]
          simp only [i0, Option.bind_some, jg, ezb, cond_false, shc_nat, Int.toNat_natCast, idx_setG hjg, rc, ra, rb]
          rw [defer_form, ed]
          simp only [Option.bind_some, cond_true, List.set_set]
        · have ap := app1 8 (by decide) cs 0 (by omega)
          have ed' : (cond (ge false B j) (some true) (Option.bind (cond (decide (ge 0 A j > 0)) (Option.bind (cond (decide (ge 0 A j < y)) (some true) (some ((ge 0 A j == y) && decide ((j : Int) < (i : Int))))) fun b35 => some b35) (some false)) fun b30 => some b30)) = some true := by
            rw [defer_form]; exact congrArg some ed
          simp only [F39_L0, kd1, idx_some hk, c1, g1, a2, Bool.not_true, n21, n23, cond_true, cond_false, Option.bind_some, gp, ig, hw, ezb, jc, Int.toNat_natCast, hclock, jb, ja, ed', jw, apW, ap, w64_succ f1 (by omega)]
        · refine ⟨by rw [List.length_set]; exact h.lg, hCl, h.la, h.lb, h.lh, by rw [List.length_set]; exact h.lw, fun a ha => ?_, rel, by omega, fun a b x hx => by have := qv a b x hx; push_cast; omega, fun a b ha hb hab => ?_, fun a b ha hb hab q => ?_⟩
          · rw [ge_set hjg, hCg, hW]
            by_cases e2 : a = j
            · subst e2
              rw [if_pos rfl, if_pos rfl, if_pos rfl]
              refine { rj with w := fun b => ?_, wl := by have := r.wl; simp; omega }
              show ((ge d0 G a).2.2.2.2 ||| (1#32 <<< i)).getLsbD b = true ↔ (b : Int) ∈ gl W a ++ [(i : Int)]
              rw [BitVec.getLsbD_or, bit_one (by omega), Bool.or_eq_true, r.w b, List.mem_append, List.mem_singleton, decide_eq_true_eq]
              exact or_congr Iff.rfl (by omega)
            · simp only [if_neg e2]; exact (h.r a ha).up
          · have h1 := qn a b
            have h2 := qz b a
            have h3 := h.un a b ha hb hab
            rw [hW]
            rw [if_neg (fun z => ez z.2.2)] at h2
            by_cases e2 : b = j
            · subst e2
              have g0 : (if b = b then gl W b ++ [(i : Int)] else gl W b) = gl W b ++ [(i : Int)] := if_pos rfl
              rw [g0]
              by_cases e3 : a = i
              · subst e3
                have g1 : (a : Int) ∈ gl W b ++ [(a : Int)] := by simp
                rw [if_pos ⟨rfl, rfl, ez⟩] at h1
                rw [if_pos g1]
                rw [if_neg hnotW] at h3
                omega
              · have e4 : ((a : Int) ∈ gl W b ++ [(i : Int)]) ↔ (a : Int) ∈ gl W b := by
                  rw [List.mem_append, List.mem_singleton]
                  constructor
                  · rintro (z | z)
                    · exact z
                    · omega
                  · exact .inl
                rw [if_neg (fun z => e3 z.1)] at h1
                by_cases e5 : (a : Int) ∈ gl W b
                · rw [if_pos (e4.2 e5)]; rw [if_pos e5] at h3; omega
                · rw [if_neg (fun z => e5 (e4.1 z))]; rw [if_neg e5] at h3; omega
            · rw [if_neg e2]
              rw [if_neg (fun z => e2 z.2.1)] at h1
              omega
          · have e2 : a ≠ i := fun z => hask (z ▸ q)
            obtain ⟨i1, i2, i3⟩ := h.idle a b ha hb hab q
            have h1 := qn a b
            have h2 := qz b a
            refine ⟨by omega, ?_, by omega⟩
            rw [hW]
            by_cases e3 : b = j
            · subst e3
              rw [if_pos rfl, List.mem_append, List.mem_singleton]
              rintro (z | z)
              · exact i2 z
              · omega
            · rw [if_neg e3]; exact i2
      | false =>
        -- it is answered
        obtain ⟨m1, hm1⟩ : ∃ m1, m1 = mupd m ((i : Int), (j : Int)) zs := ⟨_, rfl⟩
        rw [← hm1] at rel
        have rel2 : WRel id (mupd m1 ((j : Int), (i : Int)) ((m1 ((j : Int), (i : Int))).getD [] ++ [0])) (way.eraseIdx p ++ [((j : Int), (i : Int), 0)]) := rel.send (j : Int) (i : Int) 0
        have hq2 := rel.len (j : Int) (i : Int)
        have ap3 := app1 8 (by decide) ((m1 ((j : Int), (i : Int))).getD []) (0 : Int) (by omega)
        have ap4 := app1 24 (by decide) (way.eraseIdx p) ((j : Int), (i : Int), (0 : Int)) (by omega)
        refine ⟨0, G.set j (mx (gi C j) y, (ge d0 G j).2.1, (ge d0 G j).2.2.1, (ge d0 G j).2.2.2.1, (ge d0 G j).2.2.2.2), mupd m1 ((j : Int), (i : Int)) ((m1 ((j : Int), (i : Int))).getD [] ++ [0]), C1, A, B, H, W, way.eraseIdx p ++ [((j : Int), (i : Int), 0)], ?_, fun cs hcs => ?_, ?_⟩
        · unfold F72 F105
          simp only [c1, cond_false]
          rw [a1]
          simp only [n21, n22, cond_true, cond_false, Option.bind_some, hne]
          rw [hm, hs]
          simp only [i0, Option.bind_some, jg, ezb, cond_false, shc_nat, Int.toNat_natCast, idx_setG hjg, rc, ra, rb]
          rw [defer_form, ed, ← hm1]
          simp only [Option.bind_some, cond_false, F134, ap3]
        · have ap := app1 8 (by decide) cs 0 (by omega)
          have ed' : (cond (ge false B j) (some true) (Option.bind (cond (decide (ge 0 A j > 0)) (Option.bind (cond (decide (ge 0 A j < y)) (some true) (some ((ge 0 A j == y) && decide ((j : Int) < (i : Int))))) fun b35 => some b35) (some false)) fun b30 => some b30)) = some false := by
            rw [defer_form]; exact congrArg some ed
          simp only [F39_L0, kd1, idx_some hk, c1, g1, a2, Bool.not_true, n21, n23, cond_true, cond_false, Option.bind_some, gp, ig, hw, ezb, jc, Int.toNat_natCast, hclock, jb, ja, ed', ap4, ap, w64_succ f1 (by omega)]
        · have app2 : ∀ a b : Nat, qs (way.eraseIdx p ++ [((j : Int), (i : Int), (0 : Int))]) (a : Int) (b : Int) = qs (way.eraseIdx p) (a : Int) (b : Int) ++ (if a = j ∧ b = i then [0] else []) := fun a b => by
            rw [qs_app]
            congr 1
            by_cases e : a = j ∧ b = i
            · rw [if_pos e, if_pos ⟨by rw [e.1], by rw [e.2]⟩]
            · rw [if_neg e, if_neg (fun z => e (by have z1 : (j : Int) = (a : Int) := z.1; have z2 : (i : Int) = (b : Int) := z.2; omega))]
          have n0 : ∀ a b : Nat, nz (if a = j ∧ b = i then [(0 : Int)] else []) = 0 := fun a b => by split <;> rfl
          refine ⟨by rw [List.length_set]; exact h.lg, hCl, h.la, h.lb, h.lh, h.lw, fun a ha => ?_, rel2, by simp; omega, fun a b x hx => ?_, fun a b ha hb hab => ?_, fun a b ha hb hab q => ?_⟩
          · rw [ge_set hjg, hCg]
            by_cases e2 : a = j
            · subst e2; rw [if_pos rfl, if_pos rfl]; exact rj
            · simp only [if_neg e2]; exact (h.r a ha).up
          · rw [app2] at hx
            rcases List.mem_append.1 hx with hx | hx
            · have := qv a b x hx; push_cast; omega
            · split at hx
              · simp at hx; push_cast; omega
              · cases hx
          · have h1 := qn a b
            have h2 := qz b a
            have h3 := h.un a b ha hb hab
            rw [if_neg (fun z => ez z.2.2)] at h2
            rw [app2, app2, nz_app, zz_app, n0]
            by_cases e3 : a = i ∧ b = j
            · obtain ⟨rfl, rfl⟩ := e3
              rw [if_pos ⟨rfl, rfl, ez⟩] at h1
              have g2 : (if b = b ∧ a = a then [(0 : Int)] else []) = [0] := if_pos ⟨rfl, rfl⟩
              rw [g2, zz_cons, if_pos rfl]
              have : zz [] = 0 := rfl
              omega
            · rw [if_neg (fun z => e3 ⟨z.1, z.2.1⟩)] at h1
              have g2 : (if b = j ∧ a = i then [(0 : Int)] else []) = [] := if_neg (fun z => e3 ⟨z.2, z.1⟩)
              rw [g2]
              have : zz [] = 0 := rfl
              omega
          · have e2 : a ≠ i := fun z => hask (z ▸ q)
            obtain ⟨i1, i2, i3⟩ := h.idle a b ha hb hab q
            have h1 := qn a b
            have h2 := qz b a
            rw [app2, app2, nz_app, zz_app, n0, if_neg (fun z => e2 z.2)]
            have : zz [] = 0 := rfl
            exact ⟨by omega, i2, by omega⟩
end

/-! All moves. -/
theorem move {n k : Nat} {l : List Mv} {G : List One} {m : Mp} {C A : List Int} {B : List Bool} {H W : List (List Int)} {way : List Lt} {x : Mv} (h : Inv n k G m C A B H W way) (hn : n ≤ 6) (hk : l[k]? = some x) (hl : l.length ≤ 60) : Both n k l G m C A B H W way x := by
  cases c1 : (decide (x.1 < 1) || decide (x.1 > 3)) with
  | true => exact wrongKind h hn hk hl c1
  | false =>
    obtain ⟨bad, a1, a2, a3⟩ := args (x := x) h (two := (x.1 == 2))
    cases bad with
    | true => exact wrongArg h hn hk hl c1 a1 a2
    | false =>
      obtain ⟨b1, b2, b3⟩ := a3 rfl
      obtain ⟨q, a, t, v⟩ := x
      simp only at b1 b2 b3 a1 a2 c1
      obtain ⟨i, rfl⟩ := nat_of b1
      have hi : i < n := by omega
      have hq : q = 1 ∨ q = 2 ∨ q = 3 := by
        have := c1
        simp only [Bool.or_eq_false_iff, decide_eq_false_iff_not] at this
        omega
      rcases hq with rfl | rfl | rfl
      · exact wants h hn hk hl hi c1 a1 a2 rfl
      · obtain ⟨b4, b5, b6⟩ := b3 rfl
        obtain ⟨j, rfl⟩ := nat_of b4
        exact comes h hn hk hl hi c1 a1 a2 rfl rfl (by omega) (by omega)
      · exact leaves h hn hk hl hi c1 a1 a2 rfl
theorem run_both {n : Nat} {l : List Mv} (hn : n ≤ 6) (hl : l.length ≤ 60) : ∀ (r k : Nat), k + r = l.length → ∀ {cs : List Int} {G : List One} {m : Mp} {C A : List Int} {B : List Bool} {H W : List (List Int)} {way : List Lt},
    cs.length = k → Inv n k G m C A B H W way →
    ∃ (cs' : List Int) (G' : List One) (m' : Mp) (C' A' : List Int) (B' : List Bool) (H' W' : List (List Int)) (way' : List Lt),
      whileM (F38_L0 l) (cs, m, G, (k : Int)) = some (.brk (cs', m', G')) ∧
      whileM (F39_L0 (n : Int) l) (way, H, B, A, cs, W, C, (k : Int)) = some (.brk (way', H', B', A', cs', W', C')) ∧
      cs'.length = l.length ∧ Inv n l.length G' m' C' A' B' H' W' way' := by
  intro r
  induction r with
  | zero =>
    intro k hk cs G m C A B H W way hcs h
    obtain rfl : k = l.length := by omega
    exact ⟨_, _, _, _, _, _, _, _, _, whileM_brk (by simp [F38_L0]), whileM_brk (by simp [F39_L0]), hcs, h⟩
  | succ r ih =>
    intro k hk cs G m C A B H W way hcs h
    have hlt : k < l.length := by omega
    have hg : l[k]? = some l[k] := List.getElem?_eq_getElem hlt
    obtain ⟨e, G1, m1, C1, A1, B1, H1, W1, way1, r1, r2, r3⟩ := move h hn hg hl
    have n1 : F38_L0 l (cs, m, G, (k : Int)) = some (.nxt (cs ++ [e], m1, G1, ((k + 1 : Nat) : Int))) := by
      have hd : decide ((k : Int) < (l.length : Int)) = true := by rw [decide_eq_true_eq]; omega
      simp only [F38_L0, hd, cond_true, idx_some hg, Option.bind_some, r1, app1 8 (by decide) cs e (by omega), w64_succ hlt (by omega)]
    obtain ⟨cs', G', m', C', A', B', H', W', way', w1, w2, w3, w4⟩ := ih (k + 1) (by omega) (cs := cs ++ [e]) (by simp [hcs]) r3
    exact ⟨cs', G', m', C', A', B', H', W', way', by rw [whileM_nxt n1]; exact w1, by rw [whileM_nxt (r2 cs (by omega))]; exact w2, w3, w4⟩
/-- A word of those that something is true of. -/
def wordOf (Q : Nat → Bool) : Nat → BitVec 32
  | 0 => 0#32
  | k + 1 => cond (Q k) (wordOf Q k ||| (1#32 <<< k)) (wordOf Q k)
theorem wordOf_bit (Q : Nat → Bool) : ∀ n, n ≤ 32 → ∀ b, (wordOf Q n).getLsbD b = (decide (b < n) && Q b)
  | 0, _, b => by simp [wordOf]
  | n + 1, h, b => by
    have ih := wordOf_bit Q n (by omega) b
    unfold wordOf
    cases c : Q n with
    | true =>
      rw [cond_true, BitVec.getLsbD_or, ih, bit_one (by omega), Bool.eq_iff_iff]
      simp only [Bool.or_eq_true, Bool.and_eq_true, decide_eq_true_eq]
      constructor
      · rintro (⟨z1, z2⟩ | rfl)
        · exact ⟨by omega, z2⟩
        · exact ⟨by omega, c⟩
      · rintro ⟨z1, z2⟩
        by_cases e : b = n
        · exact .inr e
        · exact .inl ⟨by omega, z2⟩
    | false =>
      rw [cond_false, ih, Bool.eq_iff_iff]
      simp only [Bool.and_eq_true, decide_eq_true_eq]
      constructor
      · rintro ⟨z1, z2⟩; exact ⟨by omega, z2⟩
      · rintro ⟨z1, z2⟩
        refine ⟨?_, z2⟩
        by_cases e : b = n
        · subst e; rw [c] at z2; cases z2
        · omega
/-- The same by sums. -/
theorem wordOf_add (Q : Nat → Bool) (n : Nat) (hn : n ≤ 32) : (List.range n).foldl (fun t k => cond (Q k) (t + (1#32 <<< k)) t) 0#32 = wordOf Q n := by
  apply BitVec.eq_of_getLsbD_eq
  intro b hb
  rw [fold_plus Q n hn b, wordOf_bit Q n hn b]
def inP (B : List Bool) (i : Nat) : Bool := ge false B i
def askP (A : List Int) (i : Nat) : Bool := decide (ge 0 A i > 0)
theorem tell1 {n k : Nat} {G : List One} {m : Mp} {C A : List Int} {B : List Bool} {H W : List (List Int)} {way : List Lt} (h : Inv n k G m C A B H W way) (hn : n ≤ 6) : whileM (F38_L1 G) (0, 0, 0) = some (.brk (wordOf (inP B) n, wordOf (askP A) n)) := by
  have := while_upto (body := F38_L1 G) (fun k => (wordOf (inP B) k, wordOf (askP A) k, (k : Int))) n (c := .brk (wordOf (inP B) n, wordOf (askP A) n)) (fun k hk => ?_) (by simp [F38_L1, h.lg]) (by simp)
  · exact this
  · have hd : decide ((k : Int) < (G.length : Int)) = true := by rw [decide_eq_true_eq, h.lg]; omega
    have ig := idx_ge d0 (l := G) (j := k) (by rw [h.lg]; exact hk)
    have r := h.r k hk
    have e1 : (ge d0 G k).2.2.1 = inP B k := r.b
    have e2 : decide ((ge d0 G k).2.1 > 0) = askP A k := by rw [r.a]; rfl
    cases z1 : inP B k <;> cases z2 : askP A k <;> (rw [z1] at e1; rw [z2] at e2; simp only [F38_L1, hd, cond_true, cond_false, ig, Option.bind_some, e1, e2, shc_nat, wordOf, z1, z2, w64_succ hk (by omega)])
theorem tell2 {n k : Nat} {G : List One} {m : Mp} {C A : List Int} {B : List Bool} {H W : List (List Int)} {way : List Lt} (h : Inv n k G m C A B H W way) (hn : n ≤ 6) : whileM (F39_L3 (n : Int) B A) (0, 0, 0) = some (.brk (wordOf (inP B) n, wordOf (askP A) n)) := by
  rw [← wordOf_add (inP B) n (by omega), ← wordOf_add (askP A) n (by omega)]
  have := while_upto (body := F39_L3 (n : Int) B A) (fun k => ((List.range k).foldl (fun t k => cond (inP B k) (t + (1#32 <<< k)) t) 0#32, (List.range k).foldl (fun t k => cond (askP A k) (t + (1#32 <<< k)) t) 0#32, (k : Int))) n (c := .brk ((List.range n).foldl (fun t k => cond (inP B k) (t + (1#32 <<< k)) t) 0#32, (List.range n).foldl (fun t k => cond (askP A k) (t + (1#32 <<< k)) t) 0#32)) (fun k hk => ?_) (by simp [F39_L3]) (by simp)
  · exact this
  · have hd : decide ((k : Int) < (n : Int)) = true := by rw [decide_eq_true_eq]; omega
    have ib := idx_ge false (l := B) (j := k) (by rw [h.lb]; exact hk)
    have ia := idx_ge (0 : Int) (l := A) (j := k) (by rw [h.la]; exact hk)
    have e1 : ge false B k = inP B k := rfl
    have e2 : decide (ge 0 A k > 0) = askP A k := rfl
    cases z1 : inP B k <;> cases z2 : askP A k <;> (rw [z1] at e1; rw [z2] at e2; simp only [F39_L3, hd, cond_true, cond_false, ib, ia, Option.bind_some, e1, e2, u64_nat (show k ≤ 18446744073709551615 by omega), List.range_succ, List.foldl_append, List.foldl_cons, List.foldl_nil, z1, z2, w64_succ hk (by omega)])
theorem sum_val : ∀ (p : List ((Int × Int) × List Int)) (s : Nat), s + manyIn p ≤ 100000 → foldR F38_L2 p (s : Int) = some (.nxt ((s + manyIn p : Nat) : Int))
  | [], s, _ => by simp [foldR, manyIn]
  | x :: p, s, h => by
    have hm : manyIn (x :: p) = x.2.length + manyIn p := by simp [manyIn]
    rw [hm] at h ⊢
    rw [foldR]
    have e : F38_L2 x.1 x.2 (s : Int) = some (.nxt ((s + x.2.length : Nat) : Int)) := by
      unfold F38_L2
      rw [w64i (by omega) (by omega)]; push_cast; rfl
    rw [e]
    show foldR F38_L2 p ((s + x.2.length : Nat) : Int) = _
    rw [sum_val p (s + x.2.length) (by omega)]
    congr 2; push_cast; omega
theorem law_TurnPlays (x0 : Int) (b0 : -9223372036854775808 ≤ x0 ∧ x0 ≤ 9223372036854775807) (x1 : List Mv) (l1 : x1.length ≤ 9223372036854775807) (w1 : ∀ x ∈ x1, (-9223372036854775808 ≤ x.1 ∧ x.1 ≤ 9223372036854775807) ∧ (-9223372036854775808 ≤ x.2.1 ∧ x.2.1 ≤ 9223372036854775807) ∧ (-9223372036854775808 ≤ x.2.2.1 ∧ x.2.2.1 ≤ 9223372036854775807) ∧ (-9223372036854775808 ≤ x.2.2.2 ∧ x.2.2.2 ≤ 9223372036854775807)) :
    F11 x0 x1 = some true := by
  cases c : (((decide (x0 < 1)) || (decide (x0 > 6))) || (decide ((x1.length : Int) > 60))) with
  | true =>
    have h1 := same_codes [] (by simp)
    simp [F11, F38, F21, F40, c, h1]
  | false =>
    have c' := c
    simp only [Bool.or_eq_false_iff, decide_eq_false_iff_not] at c'
    obtain ⟨n, rfl⟩ := nat_of (a := x0) (by omega)
    have hn : n ≤ 6 := by omega
    have hl : x1.length ≤ 60 := by omega
    have I : Inv n 0 (List.replicate n d0) mzero (List.replicate n 0) (List.replicate n 0) (List.replicate n false) (List.replicate n []) (List.replicate n []) [] := by
      have hq : ∀ a b : Int, qs [] a b = [] := fun a b => rfl
      refine ⟨by simp, by simp, by simp, by simp, by simp, by simp, fun i hi => ?_, WRel.zero, by simp, fun i j x hx => (by rw [hq] at hx; cases hx), fun i j hi hj hij => ?_, fun i j hi hj hij q => ?_⟩
      · rw [ge_rep _ _ hi, gi, ge_rep _ _ hi, gb, ge_rep _ _ hi, gl, ge_rep _ _ hi]
        exact ⟨rfl, rfl, rfl, Same.zero, by simp, fun b => by simp, by decide, by decide, by decide, by decide, by simp⟩
      · rw [gl, ge_rep _ _ hj, gl, ge_rep _ _ hi, hq, hq]; simp [nz, zz]
      · rw [gl, ge_rep _ _ hj, hq, hq]; exact ⟨rfl, by simp, rfl⟩
    obtain ⟨cs', G', m', C', A', B', H', W', way', r1, r2, r3, r4⟩ := run_both hn hl x1.length 0 (by omega) (cs := []) rfl I
    have m8 := mkl_rep hn (show 8 ≤ 128 by decide) (0 : Int)
    have m1 := mkl_rep hn (show 1 ≤ 128 by decide) false
    have m24 := mkl_rep hn (show 24 ≤ 128 by decide) ([] : List Int)
    have m32 := mkl_rep hn (show 32 ≤ 128 by decide) d0
    have hsum : rangeM m' F38_L2 0 = some (.nxt (way'.length : Int)) := by
      obtain ⟨p, hp⟩ := r4.ways.fin
      refine rangeM_of hp fun p hp => ?_
      have ht := r4.ways.tot hp
      have := sum_val p 0 (by rw [ht]; have := r4.few; omega)
      rw [Nat.zero_add, ht] at this
      exact this
    have eF38 : F38 (n : Int) x1 = some ((cs', wordOf (inP B') n, wordOf (askP A') n, (way'.length : Int)), 0) := by
      have r1' : whileM (F38_L0 x1) ([], mzero, List.replicate n d0, 0) = some (.brk (cs', m', G')) := r1
      simp only [F38, c, cond_false, m32, Option.bind_some, r1', Ctl.on, tell1 r4 hn, hsum, Ctl.onN]
    have eF39 : F39 (n : Int) x1 = some (cs', wordOf (inP B') n, wordOf (askP A') n, (way'.length : Int)) := by
      have r2' : whileM (F39_L0 (n : Int) x1) ([], List.replicate n [], List.replicate n false, List.replicate n 0, [], List.replicate n [], List.replicate n 0, 0) = some (.brk (way', H', B', A', cs', W', C')) := r2
      simp only [F39, m8, m1, m24, Option.bind_some, r2', Ctl.on, tell2 r4 hn]
    have h1 := same_codes cs' (by omega)
    have eF21 : F21 (n : Int) (x1.length : Int) = some 0 := by simp only [F21, c, cond_false]
    simp [F11, eF38, eF39, eF21, F40, h1]
end Go.Proofs.Ythfkdepcnhhepaa
